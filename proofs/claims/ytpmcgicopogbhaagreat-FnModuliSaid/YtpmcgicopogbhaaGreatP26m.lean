/- Chapter 26: what the statement FnModuli says, plainly. No conditions. -/
import Derived.Test.YtpmcgicopogbhaaGreatProg
import Derived.Test.YtpmcgicopogbhaaGreatBase
import Derived.Test.YtpmcgicopogbhaaGreatL01
import Derived.Test.YtpmcgicopogbhaaGreatCp
import Derived.Test.YtpmcgicopogbhaaGreatL18
import Derived.Test.YtpmcgicopogbhaaGreatL23
import Derived.Test.YtpmcgicopogbhaaGreatL23b
import Derived.Test.YtpmcgicopogbhaaGreatL23c
import Derived.Test.YtpmcgicopogbhaaGreatL03
import Derived.Test.YtpmcgicopogbhaaGreatL04
import Derived.Test.YtpmcgicopogbhaaGreatL23d
import Derived.Test.YtpmcgicopogbhaaGreatL23e
import Derived.Test.YtpmcgicopogbhaaGreatL24
import Derived.Test.YtpmcgicopogbhaaGreatL24b
import Derived.Test.YtpmcgicopogbhaaGreatL24c
import Derived.Test.YtpmcgicopogbhaaGreatL24f
import Derived.Test.YtpmcgicopogbhaaGreatL24g
import Derived.Test.YtpmcgicopogbhaaGreatL24r
import Derived.Test.YtpmcgicopogbhaaGreatL23g
import Derived.Test.YtpmcgicopogbhaaGreatL23h
import Derived.Test.YtpmcgicopogbhaaGreatL23i
import Derived.Test.YtpmcgicopogbhaaGreatL26a
import Derived.Test.YtpmcgicopogbhaaGreatL26b
import Derived.Test.YtpmcgicopogbhaaGreatL26c
import Derived.Test.YtpmcgicopogbhaaGreatL26e
import Derived.Test.YtpmcgicopogbhaaGreatL26g
import Derived.Test.YtpmcgicopogbhaaGreatL26h
import Derived.Test.YtpmcgicopogbhaaGreatL26j
import Derived.Test.YtpmcgicopogbhaaGreatL26k
import Derived.Test.YtpmcgicopogbhaaGreatL26l
import Derived.Test.YtpmcgicopogbhaaGreatL27o
import Derived.Test.YtpmcgicopogbhaaGreatM24
import Derived.Test.YtpmcgicopogbhaaGreatM24r
import Derived.Test.YtpmcgicopogbhaaGreatP26
import Derived.WalkKit
import Derived.Lib.Hide
namespace Go.Proofs.YtpmcgicopogbhaaGreat
open Go.RowKit
set_option linter.unusedVariables false
theorem idxF_found {α : Type} (p : α → Bool) (l : List α) (i : Nat) : idxF p l i = -1 ∨ ∃ (k : Nat) (h : k < l.length), idxF p l i = ((i + k : Nat) : Int) ∧ p l[k] = true := by
  induction l generalizing i with
  | nil => exact .inl rfl
  | cons x l ih =>
    unfold idxF
    by_cases hx : p x = true
    · exact .inr ⟨0, by simp, by rw [if_pos hx]; simp, hx⟩
    · rw [if_neg hx]
      rcases ih (i + 1) with h | ⟨k, hk, h, hp⟩
      · exact .inl h
      · exact .inr ⟨k + 1, by simpa using hk, by rw [h]; congr 1; omega, by simpa using hp⟩
theorem wm_ok {C : Ch} {a b : Int} (h : okCh C = true) (ha : inB a 100 20000 = true) (hb : inB b 100 20000 = true) : wmC C a b = 0 ∧ wmV C a b = mC C a b ∧ okCh (mC C a b) = true := by
  have ho := mC_ok h ha hb
  have ho2 : okCh { C with lf := a, rt := b } = true := ho
  exact ⟨by simp [wmC, h, ho2], by simp [wmV, h, ho2, mC], ho⟩
theorem gm_facts {C : Ch} {ud ut vd vt mo : Int} (h : gmC C ud ut vd vt mo = 0) : ∃ x : Int, gmV C ud ut vd vt mo = x ∧ wmC C x C.rt = 0 ∧ wmV C x C.rt = mC C x C.rt ∧ chC (mC C x C.rt) 0 ud ut vd vt = 0 ∧ chV (mC C x C.rt) 0 ud ut vd vt ≤ mo := by
  unfold gmC at h
  by_cases hk : gmK C ud ut vd vt mo = 0
  · rw [if_pos hk] at h
    by_cases hi : gmI C ud ut vd vt mo = -1
    · rw [if_pos hi] at h; cases h
    · have ho : okCh C = true := by
        unfold gmK at hk
        by_cases h1 : (okCh C && (okF ud ut && okF vd vt)) = true
        · simp only [Bool.and_eq_true] at h1; exact h1.1
        · rw [if_neg h1] at hk; cases hk
      rcases idxF_found (gmP C ud ut vd vt mo) (List.range 200) 0 with hf | ⟨k, hk2, hf, hp⟩
      · exact absurd hf hi
      · have hk3 : k < 200 := by simpa using hk2
        have hf2 : gmI C ud ut vd vt mo = (k : Int) := by unfold gmI; rw [hf]; simp
        rw [List.getElem_range] at hp
        unfold gmP at hp
        simp only [Bool.and_eq_true, decide_eq_true_eq] at hp
        obtain ⟨_, _, _, _, ⟨r1, r2⟩, _⟩ := okCh_iff ho
        obtain ⟨w1, w2, _⟩ := wm_ok ho (inB_iff.2 (show 100 ≤ 20000 - 100 * (k : Int) ∧ 20000 - 100 * (k : Int) ≤ 20000 by omega)) (inB_iff.2 ⟨r1, r2⟩)
        exact ⟨20000 - 100 * (k : Int), by rw [gmV, if_pos hk, if_neg hi, hf2], w1, w2, hp.1, hp.2⟩
  · rw [if_neg hk] at h; exact absurd h hk
theorem cmI_neg (x y : Int) : cmI y x = -cmI x y ∧ -1 ≤ cmI x y ∧ cmI x y ≤ 1 := by
  unfold cmI
  by_cases h1 : x < y
  · rw [if_pos h1, if_neg (by omega), if_pos h1]; omega
  · rw [if_neg h1]
    by_cases h2 : y < x
    · rw [if_pos h2, if_pos h2]; omega
    · rw [if_neg h2, if_neg h2, if_neg h1]; omega
theorem cm_swap {C K : Ch} {us vs : List (Int × Int)} {e : Int} (h : cmC C K us vs e = 0) : cmC K C us vs e = 0 ∧ cmV K C us vs e = -cmV C K us vs e ∧ -1 ≤ cmV C K us vs e ∧ cmV C K us vs e ≤ 1 := by
  unfold cmC at h
  by_cases h1 : okCh K = true
  · rw [if_pos h1] at h
    by_cases h2 : lyC C us vs e = 0
    · rw [if_pos h2] at h
      by_cases h3 : wC C us vs = 0 ∧ wC K us vs = 0
      · have ho := (lyC_0 h2).1
        have hl : lyC K us vs e = 0 := by rw [lyC_same h1 (by rw [h2]; omega)]; exact h2
        obtain ⟨_, a⟩ := cm_0 h1 h2 h3.1 h3.2
        obtain ⟨b, c⟩ := cm_0 ho hl h3.2 h3.1
        have := cmI_neg (wV C us vs e).1 (wV K us vs e).1
        exact ⟨b, by rw [a, c]; exact this.1, by rw [a]; exact this.2.1, by rw [a]; exact this.2.2⟩
      · rw [if_neg h3] at h; cases h
    · rw [if_neg h2] at h; exact absurd h h2
  · rw [if_neg h1] at h; cases h
/-- A pair of moduli that may be taken, and its layout error. -/
def okP2 (C : Ch) (us vs : List (Int × Int)) (most a b : Int) : Prop := htC (mC C a b) us vs = 0 ∧ wC (mC C a b) us vs = 0 ∧ htV (mC C a b) us vs ≤ most
def vlP (C : Ch) (us vs : List (Int × Int)) (e a b : Int) : Int := (wV (mC C a b) us vs e).1
def BmI (C : Ch) (us vs : List (Int × Int)) (e most : Int) (s : Int × Int × Int) (D : Int → Int → Prop) : Prop :=
  (∀ a b, D a b → okP2 C us vs most a b → 0 ≤ s.2.2 ∧ s.2.2 ≤ vlP C us vs e a b) ∧ (0 ≤ s.2.2 → ∃ a b, D a b ∧ okP2 C us vs most a b ∧ s = (a, b, vlP C us vs e a b))
theorem BmI.congr {C : Ch} {us vs : List (Int × Int)} {e most : Int} {s : Int × Int × Int} {D D' : Int → Int → Prop} (h : BmI C us vs e most s D) (hd : ∀ a b, D a b ↔ D' a b) : BmI C us vs e most s D' :=
  ⟨fun a b hab => h.1 a b ((hd a b).2 hab), fun h0 => by obtain ⟨a, b, x, y⟩ := h.2 h0; exact ⟨a, b, (hd a b).1 x, y⟩⟩
theorem BmI.step {C : Ch} {us vs : List (Int × Int)} {e most : Int} {s : Int × Int × Int} {D : Int → Int → Prop} (a b : Int) (hv : okP2 C us vs most a b → 0 ≤ vlP C us vs e a b) (h : BmI C us vs e most s D) : BmI C us vs e most (bmS C us vs e most a s b) (fun x y => D x y ∨ (x = a ∧ y = b)) := by
  by_cases hc : (htC (mC C a b) us vs = 0 ∧ wC (mC C a b) us vs = 0 ∧ htV (mC C a b) us vs ≤ most) ∧ (s.2.2 < 0 ∨ (wV (mC C a b) us vs e).1 < s.2.2)
  · have hs : bmS C us vs e most a s b = (a, b, vlP C us vs e a b) := by unfold bmS; rw [if_pos hc]; rfl
    rw [hs]
    have h0 : 0 ≤ vlP C us vs e a b := hv hc.1
    refine ⟨fun x y hxy ho => ?_, fun _ => ⟨a, b, .inr ⟨rfl, rfl⟩, hc.1, rfl⟩⟩
    rcases hxy with hxy | ⟨rfl, rfl⟩
    · obtain ⟨k1, k2⟩ := h.1 x y hxy ho
      rcases hc.2 with h2 | h2
      · omega
      · refine ⟨h0, ?_⟩
        show vlP C us vs e a b ≤ _
        unfold vlP at k2 ⊢
        omega
    · exact ⟨h0, Int.le_refl _⟩
  · have hs : bmS C us vs e most a s b = s := bmS_no hc
    rw [hs]
    refine ⟨fun x y hxy ho => ?_, fun h0 => ?_⟩
    · rcases hxy with hxy | ⟨rfl, rfl⟩
      · exact h.1 x y hxy ho
      · have : ¬ (s.2.2 < 0 ∨ (wV (mC C x y) us vs e).1 < s.2.2) := fun hx => hc ⟨ho, hx⟩
        unfold vlP
        omega
    · obtain ⟨x, y, p, q⟩ := h.2 h0
      exact ⟨x, y, .inl p, q⟩
theorem BmI.row {C : Ch} {us vs : List (Int × Int)} {e most : Int} (a : Int) (l : List Int) : ∀ {s : Int × Int × Int} {D : Int → Int → Prop}, (∀ b, b ∈ l → okP2 C us vs most a b → 0 ≤ vlP C us vs e a b) → BmI C us vs e most s D → BmI C us vs e most (l.foldl (bmS C us vs e most a) s) (fun x y => D x y ∨ (x = a ∧ y ∈ l)) := by
  induction l with
  | nil => intro s D _ h; exact h.congr fun x y => by simp
  | cons b l ih =>
    intro s D hv h
    have h1 := ih (fun c hc => hv c (List.mem_cons_of_mem _ hc)) (h.step a b (hv b (by simp)))
    exact h1.congr fun x y => by
      simp only [List.mem_cons]
      constructor
      · rintro ((h | ⟨h, h'⟩) | ⟨h, h'⟩)
        · exact .inl h
        · exact .inr ⟨h, .inl h'⟩
        · exact .inr ⟨h, .inr h'⟩
      · rintro (h | ⟨h, h' | h'⟩)
        · exact .inl (.inl h)
        · exact .inl (.inr ⟨h, h'⟩)
        · exact .inr ⟨h, h'⟩
theorem BmI.all {C : Ch} {us vs : List (Int × Int)} {e most : Int} {ms : List Int} (l : List Int) : ∀ {s : Int × Int × Int} {D : Int → Int → Prop}, (∀ a, a ∈ l → ∀ b, b ∈ ms → okP2 C us vs most a b → 0 ≤ vlP C us vs e a b) → BmI C us vs e most s D → BmI C us vs e most (l.foldl (bmR C us vs e most ms) s) (fun x y => D x y ∨ (x ∈ l ∧ y ∈ ms)) := by
  induction l with
  | nil => intro s D _ h; exact h.congr fun x y => by simp
  | cons a l ih =>
    intro s D hv h
    have h1 := ih (fun c hc => hv c (List.mem_cons_of_mem _ hc)) (BmI.row a ms (fun b hb => hv a (by simp) b hb) h)
    exact h1.congr fun x y => by
      simp only [List.mem_cons]
      constructor
      · rintro ((h | ⟨h, h'⟩) | ⟨h, h'⟩)
        · exact .inl h
        · exact .inr ⟨.inl h, h'⟩
        · exact .inr ⟨.inr h, h'⟩
      · rintro (h | ⟨h | h, h'⟩)
        · exact .inl (.inl h)
        · exact .inl (.inr ⟨h, h'⟩)
        · exact .inr ⟨h, h'⟩
theorem lyC_eye {C : Ch} {us vs : List (Int × Int)} {e : Int} (h : lyC C us vs e = 0) : lyC C us vs 0 = 0 := by
  obtain ⟨o1, o2, o3, ⟨u1, u2⟩, ⟨v1, v2⟩, e1, e2⟩ := lyC_0 h
  unfold lyC
  rw [if_pos (by simp [o1, o2, o3]), if_pos (by rw [inB_iff.2 (show (1 : Int) ≤ us.length ∧ (us.length : Int) ≤ 12 by omega), inB_iff.2 (show (1 : Int) ≤ vs.length ∧ (vs.length : Int) ≤ 12 by omega)]; rfl)]
theorem vl_nonneg {C : Ch} {us vs : List (Int × Int)} {e : Int} (h : lyC C us vs e = 0) (hw : wC C us vs = 0) : 0 ≤ (wV C us vs e).1 := by
  have hl : leC C us vs e = 0 := by rw [(le_0 h).1]; exact hw
  have f := ly_facts hl
  obtain ⟨o1, _, _, _, _, e1, _⟩ := lyC_0 h
  obtain ⟨i, k, hi, hk, _, _, a3⟩ := f.at_
  have hlh : lhC C us[i].1 us[i].2 vs[k].1 vs[k].2 = 0 := of_decide_eq_true (List.all_eq_true.1 (List.all_eq_true.1 f.ok _ (List.getElem_mem hi)) _ (List.getElem_mem hk))
  rw [← (le_0 h).2, ← a3]
  exact re_nonneg o1 hlh e1
/-- What is known of the best moduli. -/
theorem bm_best {C : Ch} {us vs : List (Int × Int)} {e most : Int} {ms : List Int} (h : bmC C us vs e most ms = 0) : ∃ l r : Int, bmV C us vs e most ms = (l, r) ∧ wmC C l r = 0 ∧ wmV C l r = mC C l r ∧
    leC (mC C l r) us vs e = 0 ∧ heC (mC C l r) us vs = 0 ∧ heV (mC C l r) us vs ≤ most ∧ 1 ≤ ms.length ∧ ms.length ≤ 8 ∧
    ∀ a b, a ∈ ms → b ∈ ms → wmC C a b = 0 ∧ wmV C a b = mC C a b ∧ (leC (mC C a b) us vs e = 0 → heC (mC C a b) us vs = 0 → heV (mC C a b) us vs ≤ most → (leV (mC C l r) us vs e).1 ≤ (leV (mC C a b) us vs e).1) := by
  have h0 := h
  unfold bmC at h
  by_cases h1 : lyC C us vs e = 0
  · rw [if_neg (by simpa using h1)] at h
    by_cases h2 : bmG ms most = false
    · rw [if_pos h2] at h; cases h
    · rw [if_neg h2] at h
      by_cases h3 : (bmT C us vs e most ms).2.2 < 0
      · rw [if_pos h3] at h; cases h
      · have hg : bmG ms most = true := by simpa using h2
        have ho := (lyC_0 h1).1
        have hg2 := hg
        simp only [bmG, Bool.and_eq_true, decide_eq_true_eq] at hg2
        obtain ⟨⟨g1, g2⟩, g3⟩ := hg2
        have hin : ∀ a, a ∈ ms → inB a 100 20000 = true := fun a ha => List.all_eq_true.1 g3 a ha
        have hly : ∀ a b, a ∈ ms → b ∈ ms → lyC (mC C a b) us vs e = 0 := fun a b ha hb => by
          rw [lyC_same (mC_ok ho (hin a ha) (hin b hb)) (by rw [h1]; omega)]; exact h1
        have hI := BmI.all (C := C) (us := us) (vs := vs) (e := e) (most := most) (ms := ms) ms (s := (0, 0, -1)) (D := fun _ _ => False)
          (fun a ha b hb hp => vl_nonneg (hly a b ha hb) hp.2.1) ⟨fun _ _ hf => hf.elim, fun hx => by simp at hx⟩
        have hT : ms.foldl (bmR C us vs e most ms) (0, 0, -1) = bmT C us vs e most ms := rfl
        rw [hT] at hI
        obtain ⟨l, r, hd, hp, hs⟩ := hI.2 (by omega)
        obtain ⟨hl, hr⟩ : l ∈ ms ∧ r ∈ ms := by rcases hd with hf | hd; exact hf.elim; exact hd
        obtain ⟨w1, w2, w3⟩ := wm_ok ho (hin l hl) (hin r hr)
        have hV : bmV C us vs e most ms = (l, r) := by rw [(bm_0 h1 hg h3).2, hs]
        have hhe : ∀ a b, a ∈ ms → b ∈ ms → heC (mC C a b) us vs = htC (mC C a b) us vs ∧ (htC (mC C a b) us vs = 0 → heV (mC C a b) us vs = htV (mC C a b) us vs) := fun a b ha hb => by
          have hl0 := lyC_eye (hly a b ha hb)
          exact ⟨by simp [heC, hl0], fun hx => by simp [heV, hl0]⟩
        obtain ⟨p1, p2, p3⟩ := hp
        obtain ⟨x1, x2⟩ := hhe l r hl hr
        refine ⟨l, r, hV, w1, w2, by rw [(le_0 (hly l r hl hr)).1]; exact p2, by rw [x1]; exact p1, by rw [x2 p1]; exact p3, ?_, g1, fun a b ha hb => ?_⟩
        · cases ms with
          | nil => cases hl
          | cons _ _ => simp
        · obtain ⟨y1, y2, _⟩ := wm_ok ho (hin a ha) (hin b hb)
          refine ⟨y1, y2, fun q1 q2 q3 => ?_⟩
          obtain ⟨z1, z2⟩ := hhe a b ha hb
          rw [z1] at q2
          rw [z2 q2] at q3
          rw [(le_0 (hly a b ha hb)).1] at q1
          have hm := (hI.1 a b (.inr ⟨ha, hb⟩) ⟨q2, q1, q3⟩).2
          rw [hs] at hm
          rw [(le_0 (hly l r hl hr)).2, (le_0 (hly a b ha hb)).2]
          exact hm
  · rw [if_pos (by simpa using h1)] at h; exact absurd h h1
theorem bm_best2 {C : Ch} {us vs : List (Int × Int)} {e most : Int} {ms : List Int} (h : bmC C us vs e most ms = 0) : wmC C (bmV C us vs e most ms).1 (bmV C us vs e most ms).2 = 0 ∧ wmV C (bmV C us vs e most ms).1 (bmV C us vs e most ms).2 = mC C (bmV C us vs e most ms).1 (bmV C us vs e most ms).2 ∧
    leC (mC C (bmV C us vs e most ms).1 (bmV C us vs e most ms).2) us vs e = 0 ∧ heC (mC C (bmV C us vs e most ms).1 (bmV C us vs e most ms).2) us vs = 0 ∧ heV (mC C (bmV C us vs e most ms).1 (bmV C us vs e most ms).2) us vs ≤ most ∧ 1 ≤ ms.length ∧ ms.length ≤ 8 ∧
    ∀ a b, a ∈ ms → b ∈ ms → wmC C a b = 0 ∧ wmV C a b = mC C a b ∧ (leC (mC C a b) us vs e = 0 → heC (mC C a b) us vs = 0 → heV (mC C a b) us vs ≤ most → (leV (mC C (bmV C us vs e most ms).1 (bmV C us vs e most ms).2) us vs e).1 ≤ (leV (mC C a b) us vs e).1) := by
  obtain ⟨l, r, e, h1⟩ := bm_best h
  rw [e]
  exact h1
theorem gm_facts2 {C : Ch} {ud ut vd vt mo : Int} (h : gmC C ud ut vd vt mo = 0) : wmC C (gmV C ud ut vd vt mo) C.rt = 0 ∧ wmV C (gmV C ud ut vd vt mo) C.rt = mC C (gmV C ud ut vd vt mo) C.rt ∧ chC (mC C (gmV C ud ut vd vt mo) C.rt) 0 ud ut vd vt = 0 ∧ chV (mC C (gmV C ud ut vd vt mo) C.rt) 0 ud ut vd vt ≤ mo := by
  obtain ⟨x, e, h1⟩ := gm_facts h
  rw [e]
  exact h1
end Go.Proofs.YtpmcgicopogbhaaGreat
