/- Chapters 23 and 27: columns, moduli, safe bounds. Conditions: as stated at each contract. -/
import Derived.Test.YtpmcgicopogbhaaGreatProg
import Derived.Test.YtpmcgicopogbhaaGreatBase
import Derived.Test.YtpmcgicopogbhaaGreatZy
import Derived.Test.YtpmcgicopogbhaaGreatL01
import Derived.Test.YtpmcgicopogbhaaGreatCp
import Derived.Test.YtpmcgicopogbhaaGreatL18
import Derived.WalkKit
import Derived.WalkSpells
import Derived.WalkLawsBesides
import Derived.Lib.Hide
import Derived.Deep.QuietTactic
import Derived.BigQuiet
import Derived.Deep.Draws
import Derived.Deep.RegionHeld3
import Derived.PlainAid
namespace Go.Proofs.YtpmcgicopogbhaaGreat
set_option linter.unusedSimpArgs false
open Go.RowKit
set_option linter.unusedVariables false
def P0 (C : Ch) : Int := C.zs.getD 0 0
def P1 (C : Ch) : Int := C.zs.getD 1 0
theorem ltr_pw {nm : ByteArray} {zs : List Int} {k : Nat} (h : ltr nm zs k = true) : zs.getD k 0 ≠ 0 ∧ -6 ≤ zs.getD k 0 ∧ zs.getD k 0 ≤ 6 := by
  simp only [ltr, Bool.and_eq_true, decide_eq_true_eq] at h
  exact ⟨h.1.2, inB_iff.1 h.2⟩
theorem okFm_iff {C : Ch} (h : okFm C = true) : (1000 ≤ C.dg ∧ C.dg ≤ 9999 ∧ -30 ≤ C.tn ∧ C.tn ≤ 30) ∧ C.nm.size ≤ 6 ∧ C.zs.length = C.nm.size ∧ ∀ k, k < C.nm.size → C.zs.getD k 0 ≠ 0 ∧ -6 ≤ C.zs.getD k 0 ∧ C.zs.getD k 0 ≤ 6 := by
  simp only [okFm, Bool.and_eq_true, decide_eq_true_eq] at h
  exact ⟨okF_iff h.1.1.1, h.1.1.2, h.1.2, fun k hk => ltr_pw (ltrs_at h.2 hk)⟩
theorem okCh_iff {C : Ch} (h : okCh C = true) : (1000 ≤ C.dg ∧ C.dg ≤ 9999 ∧ -30 ≤ C.tn ∧ C.tn ≤ 30) ∧ (2 ≤ C.zs.length ∧ C.zs.length ≤ 2) ∧ (1000 ≤ C.wd ∧ C.wd ≤ 100000) ∧ (100 ≤ C.lf ∧ C.lf ≤ 20000) ∧ (100 ≤ C.rt ∧ C.rt ≤ 20000) ∧ (P0 C ≠ 0 ∧ -6 ≤ P0 C ∧ P0 C ≤ 6) ∧ (P1 C ≠ 0 ∧ -6 ≤ P1 C ∧ P1 C ≤ 6) := by
  simp only [okCh, Bool.and_eq_true, decide_eq_true_eq] at h
  obtain ⟨⟨⟨⟨h1, h2⟩, h3⟩, h4⟩, h5⟩ := h
  obtain ⟨a, b, c, d⟩ := okFm_iff h1
  exact ⟨a, by omega, inB_iff.1 h3, inB_iff.1 h4, inB_iff.1 h5, d 0 (by omega), d 1 (by omega)⟩
theorem Ints.pows {w : World} {A : Option Addr} {C : Ch} (h : Ints w A C.zs) (h2 : 2 ≤ C.zs.length) : ∃ b o, A = some ⟨b, o, none⟩ ∧ b < w.heap.size ∧ w.cell? ⟨b, o, none⟩ = some (.int .i64 (P0 C)) ∧ w.cell? ⟨b, o + 1, none⟩ = some (.int .i64 (P1 C)) := by
  obtain ⟨b, o, e, hb, hc⟩ := h (by omega)
  exact ⟨b, o, e, hb, hc 0 (by omega), hc 1 (by omega)⟩
theorem mul_pos_bd {a b A B : Int} (ha : 1 ≤ a) (ha2 : a ≤ A) (hb : 1 ≤ b) (hb2 : b ≤ B) : 1 ≤ a * b ∧ a * b ≤ A * B := by
  have h1 := Int.mul_le_mul ha hb (by omega) (by omega)
  have h2 := Int.mul_le_mul ha2 hb2 (by omega) (by omega)
  omega
/-- The modulus of the middle scale, reduced. -/
def mmG (C : Ch) : Int := Gc (C.lf * C.rt) (C.lf + C.rt)
def mmN (C : Ch) : Int := if okCh C then (C.lf * C.rt) / mmG C else 0
def mmD (C : Ch) : Int := if okCh C then (C.lf + C.rt) / mmG C else 0
def mmC (C : Ch) : Int := if okCh C then 0 else 1
/-- The column of the middle scale. -/
def mcL (C : Ch) : Int := if okCh C then Fl (C.wd * C.lf) (C.lf + C.rt) else 0
def mcH (C : Ch) : Int := if okCh C then Cl (C.wd * C.lf) (C.lf + C.rt) else 0
def okFs (ps : List (Int × Int)) : Bool := ps.all fun p => okF p.1 p.2
theorem okFs_step {ps : List (Int × Int)} {k : Nat} (hk : k < ps.length) (h : okFs (ps.take k) = true) (hp : okF ps[k].1 ps[k].2 = true) : okFs (ps.take (k + 1)) = true := by
  unfold okFs at *
  rw [List.take_succ_eq_append_getElem hk, List.all_append, h]; simp [hp]
theorem okFs_no {ps : List (Int × Int)} {k : Nat} (hk : k < ps.length) (hp : okF ps[k].1 ps[k].2 = false) : okFs ps = false := by
  unfold okFs
  rw [List.all_eq_false]
  exact ⟨_, List.getElem_mem hk, by simp [hp]⟩
theorem areFigures_c (A : Option Addr) (c : Nat) (ps : List (Int × Int)) (hn : ps.length ≤ 1048576) (w : World) (hA : Prs w A ps) :
    Calls Tryz.prog 70 #[.slice A ps.length c] w fun e w' => e = .returned (.bool (okFs ps)) ∧ Below w.heap.size w w' := by
  go_enter Tryz.func70, Tryz.ntmps70
  go_wp2
  go_loopw [4, 7] (fun _ i wr => ∃ k : Nat, k ≤ ps.length ∧ i = .int .i64 k ∧ okFs (ps.take k) = true ∧ Below w.heap.size w wr) (fun _ i _ => ps.length - (intOf i).toNat)
  case atStart => exact ⟨0, Nat.zero_le _, rfl, rfl, Below.refl _ _⟩
  case round =>
    obtain ⟨k, hk, rfl, hok, hbel⟩ := hrel
    by_cases hlt : k < ps.length
    · obtain ⟨b, o, rfl, hbb, hc1, hc2⟩ := (Prs.step hbel hA).at_ k hlt
      obtain ⟨x, hx⟩ : ∃ x, x = ps[k].1 := ⟨_, rfl⟩
      obtain ⟨y, hy⟩ : ∃ y, y = ps[k].2 := ⟨_, rfl⟩
      rw [← hx] at hc1
      rw [← hy] at hc2
      have hs := hbel.size
      by_cases h1 : okF x y = true
      · have HS := Lib.hid (okFs_step hlt hok (by rw [← hx, ← hy]; exact h1))
        clear hx hy hok
        go_wp2_with (first | (go_at_call 67; refine (IsFigure_I _ _ _).mono ?_; rintro e w1 ⟨rfl, hb1⟩; obtain ⟨hc1, hf1, hz1⟩ := bel hb1; (try simp only [World.size_drew, World.cell?_drew, World.frozen?_drew, World.heap_drewN, World.cell?_drewN, World.frozen?_drewN] at hc1 hf1 hz1); (try have hl1 : w.heap.size < w1.heap.size := zl hb1); (try have hm1 : w.heap.size + 1 < w1.heap.size := zl hb1); (try have hn1 : w.heap.size + 1 + 1 < w1.heap.size := zl hb1); (try have hp1 : b < w1.heap.size := zl hb1); (try have ho1 : b' < w1.heap.size := by (have hq := hb1.size; (try simp at hq); omega))))
        go_roundw
        case rel => exact ⟨k + 1, by omega, by go_num, HS.out, by repeat (with_reducible first | exact Below.refl _ _ | assumption | refine Bel.alloc ?_ _ | refine Bel.step (by assumption) ?_ | refine Below.drew ?_ | refine Bel.drewN ?_ _ | refine Below.setCell ?_ (by first | exact Nat.le_refl _ | omega | (simp; done) | (simp; omega)) _)⟩
        case measure => simp [intOf]; omega
      · have h1' : okF x y = false := by simpa using h1
        have HF := Lib.hid (okFs_no hlt (by rw [← hx, ← hy]; exact h1'))
        clear hx hy hok h1
        go_wp2_with (first | (go_at_call 67; refine (IsFigure_I _ _ _).mono ?_; rintro e w1 ⟨rfl, hb1⟩; obtain ⟨hc1, hf1, hz1⟩ := bel hb1; (try simp only [World.size_drew, World.cell?_drew, World.frozen?_drew, World.heap_drewN, World.cell?_drewN, World.frozen?_drewN] at hc1 hf1 hz1); (try have hl1 : w.heap.size < w1.heap.size := zl hb1); (try have hm1 : w.heap.size + 1 < w1.heap.size := zl hb1); (try have hn1 : w.heap.size + 1 + 1 < w1.heap.size := zl hb1); (try have hp1 : b < w1.heap.size := zl hb1); (try have ho1 : b' < w1.heap.size := by (have hq := hb1.size; (try simp at hq); omega))))
        go_ret
        exact ⟨by rw [HF.out]; rfl, by repeat (with_reducible first | exact Below.refl _ _ | assumption | refine Bel.alloc ?_ _ | refine Bel.step (by assumption) ?_ | refine Below.drew ?_ | refine Bel.drewN ?_ _ | refine Below.setCell ?_ (by first | exact Nat.le_refl _ | omega | (simp; done) | (simp; omega)) _)⟩
    · obtain rfl : k = ps.length := by omega
      rw [List.take_length] at hok
      have HF := Lib.hid hok
      clear hok
      go_wp2
      go_ret
      exact ⟨by rw [HF.out]; rfl, by repeat (with_reducible first | exact Below.refl _ _ | assumption | refine Bel.alloc ?_ _ | refine Bel.step (by assumption) ?_ | refine Below.drew ?_ | refine Bel.drewN ?_ _ | refine Below.setCell ?_ (by first | exact Nat.le_refl _ | omega | (simp; done) | (simp; omega)) _)⟩
/-- The code of a chart, an error of the eye and figures. -/
def clC (C : Ch) (e : Int) (ok : Bool) : Int := if okCh C && ok then (if inB e 0 200 then 0 else 2) else 1
theorem checkLine_c (C : Ch) (A : Option Addr) (c : Nat) (x : Int) (B : Option Addr) (d : Nat) (ps : List (Int × Int)) (hn : C.zs.length ≤ 1048576) (hs : C.nm.size ≤ 1048576) (hp : ps.length ≤ 1048576) (w : World) (hA : Ints w A C.zs) (hB : Prs w B ps) :
    Calls Tryz.prog 53 #[.agg #[.int .i64 C.dg, .int .i64 C.tn, .string C.nm, .slice A C.zs.length c, .int .i64 C.wd, .int .i64 C.lf, .int .i64 C.rt], .int .i64 x, .slice B ps.length d] w fun e w' => e = .returned (.int .i64 (clC C x (okFs ps))) ∧ Below w.heap.size w w' := by
  by_cases h1 : okCh C = true
  · by_cases h2 : okFs ps = true
    · by_cases h3 : inB x 0 200 = true
      · have HV := Lib.hid (show clC C x (okFs ps) = 0 by simp [clC, h1, h2, h3])
        go_enter Tryz.func53, Tryz.ntmps53
        go_wp2_with fail
        go_at_call 69; refine (IsChart_I _ _ _ hn hs _ (Ints.alloc _ hA)).mono ?_; rintro e w1 ⟨rfl, hb1⟩; obtain ⟨hc1, hf1, hz1⟩ := bel hb1; (try simp only [World.size_drew, World.cell?_drew, World.frozen?_drew, World.heap_drewN, World.cell?_drewN, World.frozen?_drewN] at hc1 hf1 hz1); (try have hl1 : w.heap.size < w1.heap.size := zl hb1); (try have hm1 : w.heap.size + 1 < w1.heap.size := zl hb1); (try have hn1 : w.heap.size + 1 + 1 < w1.heap.size := zl hb1); (try have hp1 : b < w1.heap.size := zl hb1); (try have ho1 : b' < w1.heap.size := by (have hq := hb1.size; (try simp at hq); omega))
        have hB1 := Prs.step hb1 (Prs.alloc _ hB)
        go_wp2_with fail
        go_at_call 70; refine (areFigures_c _ _ _ hp _ hB1).mono ?_; rintro e w2 ⟨rfl, hb2⟩; obtain ⟨hc2, hf2, hz2⟩ := bel hb2; (try simp only [World.size_drew, World.cell?_drew, World.frozen?_drew, World.heap_drewN, World.cell?_drewN, World.frozen?_drewN] at hc2 hf2 hz2); (try have hl2 : w.heap.size < w2.heap.size := zl hb2); (try have hm2 : w.heap.size + 1 < w2.heap.size := zl hb2); (try have hn2 : w.heap.size + 1 + 1 < w2.heap.size := zl hb2); (try have hp2 : b < w2.heap.size := zl hb2); (try have ho2 : b' < w2.heap.size := by (have hq := hb2.size; (try simp at hq); omega))
        go_wp2_with (first | (go_at_call 71; refine (within_c _ _ _ _).mono ?_; rintro e w' ⟨rfl, rfl⟩))
        go_ret
        exact ⟨ret_int HV.out.symm, by repeat (with_reducible first | exact Below.refl _ _ | assumption | refine Bel.alloc ?_ _ | refine Bel.step (by assumption) ?_ | refine Below.drew ?_ | refine Bel.drewN ?_ _ | refine Below.setCell ?_ (by first | exact Nat.le_refl _ | omega | (simp; done) | (simp; omega)) _)⟩
      · have h3' : inB x 0 200 = false := by simpa using h3
        have HV := Lib.hid (show clC C x (okFs ps) = 2 by simp [clC, h1, h2, h3'])
        clear h3
        go_enter Tryz.func53, Tryz.ntmps53
        go_wp2_with fail
        go_at_call 69; refine (IsChart_I _ _ _ hn hs _ (Ints.alloc _ hA)).mono ?_; rintro e w1 ⟨rfl, hb1⟩; obtain ⟨hc1, hf1, hz1⟩ := bel hb1; (try simp only [World.size_drew, World.cell?_drew, World.frozen?_drew, World.heap_drewN, World.cell?_drewN, World.frozen?_drewN] at hc1 hf1 hz1); (try have hl1 : w.heap.size < w1.heap.size := zl hb1); (try have hm1 : w.heap.size + 1 < w1.heap.size := zl hb1); (try have hn1 : w.heap.size + 1 + 1 < w1.heap.size := zl hb1); (try have hp1 : b < w1.heap.size := zl hb1); (try have ho1 : b' < w1.heap.size := by (have hq := hb1.size; (try simp at hq); omega))
        have hB1 := Prs.step hb1 (Prs.alloc _ hB)
        go_wp2_with fail
        go_at_call 70; refine (areFigures_c _ _ _ hp _ hB1).mono ?_; rintro e w2 ⟨rfl, hb2⟩; obtain ⟨hc2, hf2, hz2⟩ := bel hb2; (try simp only [World.size_drew, World.cell?_drew, World.frozen?_drew, World.heap_drewN, World.cell?_drewN, World.frozen?_drewN] at hc2 hf2 hz2); (try have hl2 : w.heap.size < w2.heap.size := zl hb2); (try have hm2 : w.heap.size + 1 < w2.heap.size := zl hb2); (try have hn2 : w.heap.size + 1 + 1 < w2.heap.size := zl hb2); (try have hp2 : b < w2.heap.size := zl hb2); (try have ho2 : b' < w2.heap.size := by (have hq := hb2.size; (try simp at hq); omega))
        go_wp2_with (first | (go_at_call 71; refine (within_c _ _ _ _).mono ?_; rintro e w' ⟨rfl, rfl⟩))
        go_ret
        exact ⟨ret_int HV.out.symm, by repeat (with_reducible first | exact Below.refl _ _ | assumption | refine Bel.alloc ?_ _ | refine Bel.step (by assumption) ?_ | refine Below.drew ?_ | refine Bel.drewN ?_ _ | refine Below.setCell ?_ (by first | exact Nat.le_refl _ | omega | (simp; done) | (simp; omega)) _)⟩
    · have h2' : okFs ps = false := by simpa using h2
      have HV := Lib.hid (show clC C x (okFs ps) = 1 by simp [clC, h2'])
      clear h2
      go_enter Tryz.func53, Tryz.ntmps53
      go_wp2_with fail
      go_at_call 69; refine (IsChart_I _ _ _ hn hs _ (Ints.alloc _ hA)).mono ?_; rintro e w1 ⟨rfl, hb1⟩; obtain ⟨hc1, hf1, hz1⟩ := bel hb1; (try simp only [World.size_drew, World.cell?_drew, World.frozen?_drew, World.heap_drewN, World.cell?_drewN, World.frozen?_drewN] at hc1 hf1 hz1); (try have hl1 : w.heap.size < w1.heap.size := zl hb1); (try have hm1 : w.heap.size + 1 < w1.heap.size := zl hb1); (try have hn1 : w.heap.size + 1 + 1 < w1.heap.size := zl hb1); (try have hp1 : b < w1.heap.size := zl hb1); (try have ho1 : b' < w1.heap.size := by (have hq := hb1.size; (try simp at hq); omega))
      have hB1 := Prs.step hb1 (Prs.alloc _ hB)
      go_wp2_with fail
      go_at_call 70; refine (areFigures_c _ _ _ hp _ hB1).mono ?_; rintro e w2 ⟨rfl, hb2⟩; obtain ⟨hc2, hf2, hz2⟩ := bel hb2; (try simp only [World.size_drew, World.cell?_drew, World.frozen?_drew, World.heap_drewN, World.cell?_drewN, World.frozen?_drewN] at hc2 hf2 hz2); (try have hl2 : w.heap.size < w2.heap.size := zl hb2); (try have hm2 : w.heap.size + 1 < w2.heap.size := zl hb2); (try have hn2 : w.heap.size + 1 + 1 < w2.heap.size := zl hb2); (try have hp2 : b < w2.heap.size := zl hb2); (try have ho2 : b' < w2.heap.size := by (have hq := hb2.size; (try simp at hq); omega))
      go_wp2
      go_ret
      exact ⟨ret_int HV.out.symm, by repeat (with_reducible first | exact Below.refl _ _ | assumption | refine Bel.alloc ?_ _ | refine Bel.step (by assumption) ?_ | refine Below.drew ?_ | refine Bel.drewN ?_ _ | refine Below.setCell ?_ (by first | exact Nat.le_refl _ | omega | (simp; done) | (simp; omega)) _)⟩
  · have h1' : okCh C = false := by simpa using h1
    have HV := Lib.hid (show clC C x (okFs ps) = 1 by simp [clC, h1'])
    clear h1
    go_enter Tryz.func53, Tryz.ntmps53
    go_wp2_with fail
    go_at_call 69; refine (IsChart_I _ _ _ hn hs _ (Ints.alloc _ hA)).mono ?_; rintro e w1 ⟨rfl, hb1⟩; obtain ⟨hc1, hf1, hz1⟩ := bel hb1; (try simp only [World.size_drew, World.cell?_drew, World.frozen?_drew, World.heap_drewN, World.cell?_drewN, World.frozen?_drewN] at hc1 hf1 hz1); (try have hl1 : w.heap.size < w1.heap.size := zl hb1); (try have hm1 : w.heap.size + 1 < w1.heap.size := zl hb1); (try have hn1 : w.heap.size + 1 + 1 < w1.heap.size := zl hb1); (try have hp1 : b < w1.heap.size := zl hb1); (try have ho1 : b' < w1.heap.size := by (have hq := hb1.size; (try simp at hq); omega))
    go_wp2
    go_ret
    exact ⟨ret_int HV.out.symm, by repeat (with_reducible first | exact Below.refl _ _ | assumption | refine Bel.alloc ?_ _ | refine Bel.step (by assumption) ?_ | refine Below.drew ?_ | refine Bel.drewN ?_ _ | refine Below.setCell ?_ (by first | exact Nat.le_refl _ | omega | (simp; done) | (simp; omega)) _)⟩
/-- The safe bound of a chart. -/
def sbV (C : Ch) (e : Int) : Int := Cl ((2 + e) * 1048576 * (C.lf + C.rt)) (C.lf * C.rt) + 3 * (Ab (P0 C) + Ab (P1 C) + 2) + 4
def sbR (C : Ch) (e : Int) : Int := if clC C e true = 0 then sbV C e else 0
theorem clC_0 {C : Ch} {e : Int} {ok : Bool} (h : clC C e ok = 0) : okCh C = true ∧ ok = true ∧ inB e 0 200 = true := by
  unfold clC at h
  cases h1 : okCh C <;> cases ok <;> cases h2 : inB e 0 200 <;> simp_all
theorem Ab_six {a : Int} (h1 : -6 ≤ a) (h2 : a ≤ 6) : 0 ≤ Ab a ∧ Ab a ≤ 6 := by unfold Ab; split <;> omega
theorem sb_bd {C : Ch} {e : Int} (h : okCh C = true) (h1 : 0 ≤ e) (h2 : e ≤ 200) : (1 ≤ C.lf * C.rt ∧ C.lf * C.rt ≤ 400000000) ∧ (0 ≤ (2 + e) * 1048576 * (C.lf + C.rt) ∧ (2 + e) * 1048576 * (C.lf + C.rt) ≤ 9000000000000) ∧ -9000000000000 ≤ Cl ((2 + e) * 1048576 * (C.lf + C.rt)) (C.lf * C.rt) ∧ Cl ((2 + e) * 1048576 * (C.lf + C.rt)) (C.lf * C.rt) ≤ 9000000000000 := by
  obtain ⟨_, _, ⟨a5, a6⟩, ⟨a1, a2⟩, ⟨a3, a4⟩, _, _⟩ := okCh_iff h
  obtain ⟨m1, m2⟩ := mul_pos_bd (A := 20000) (B := 20000) (show 1 ≤ C.lf by omega) a2 (show 1 ≤ C.rt by omega) a4
  obtain ⟨n1, n2⟩ := mul_pos_bd (a := (2 + e) * 1048576) (b := C.lf + C.rt) (A := 211812352) (B := 40000) (by omega) (by omega) (by omega) (by omega)
  obtain ⟨c1, c2⟩ := Cl_bd ((2 + e) * 1048576 * (C.lf + C.rt)) (C.lf * C.rt) 9000000000000 (by omega) (by omega)
  exact ⟨⟨m1, by omega⟩, ⟨by omega, by omega⟩, c1, c2⟩
set_option maxHeartbeats 800000 in
theorem l27Safe_c (C : Ch) (A : Option Addr) (c : Nat) (e : Int) (h1 : okCh C = true) (he1 : 0 ≤ e) (he2 : e ≤ 200) (w : World) (hA : Ints w A C.zs) :
    Calls Tryz.prog 49 #[.agg #[.int .i64 C.dg, .int .i64 C.tn, .string C.nm, .slice A C.zs.length c, .int .i64 C.wd, .int .i64 C.lf, .int .i64 C.rt], .int .i64 e] w fun r w' => r = .returned (.int .i64 (sbV C e)) ∧ Below w.heap.size w w' := by
  have HV := Lib.hid (show sbV C e = Cl ((2 + e) * 1048576 * (C.lf + C.rt)) (C.lf * C.rt) + 3 * (Ab (P0 C) + Ab (P1 C) + 2) + 4 from rfl)
  obtain ⟨_, ⟨hz, _⟩, _, ⟨a1, a2⟩, ⟨a3, a4⟩, ⟨_, u1, u2⟩, ⟨_, u3, u4⟩⟩ := okCh_iff h1
  obtain ⟨⟨m1, m2⟩, ⟨n1, n2⟩, c1, c2⟩ := sb_bd h1 he1 he2
  obtain ⟨b, o, rfl, hbb, hc0, hcc⟩ := hA.pows hz
  have e1 : IntKind.i64.wrap (C.lf * C.rt) = C.lf * C.rt := wr64 (by omega) (by omega)
  have e2 : IntKind.i64.wrap ((2 + e) * 1048576 * (C.lf + C.rt)) = (2 + e) * 1048576 * (C.lf + C.rt) := wr64 (by omega) (by omega)
  obtain ⟨v1, v2⟩ := Ab_six u1 u2
  obtain ⟨v3, v4⟩ := Ab_six u3 u4
  go_enter Tryz.func49, Tryz.ntmps49
  go_wp2_with (first | (go_at_call 99; refine (l01Ceil_c _ _ (by omega) (by omega) (by omega) (by omega) (by omega) _).mono ?_; rintro e w' ⟨rfl, rfl⟩))
  go_quiet ((first | (go_at_call 100; with_reducible exact quiet_left (l01Abs_c _ (by omega) (by omega) _))))
  go_wp2
  go_ret
  exact ⟨by rw [HV.out]; rfl, by repeat (with_reducible first | exact Below.refl _ _ | assumption | refine Bel.alloc ?_ _ | refine Bel.step (by assumption) ?_ | refine Below.drew ?_ | refine Bel.drewN ?_ _ | refine Below.setCell ?_ (by first | exact Nat.le_refl _ | omega | (simp; done) | (simp; omega)) _)⟩
set_option maxHeartbeats 800000 in
theorem safeBound_c (C : Ch) (A : Option Addr) (c : Nat) (e : Int) (h1 : okCh C = true) (he1 : 0 ≤ e) (he2 : e ≤ 200) (w : World) (hA : Ints w A C.zs) :
    Calls Tryz.prog 48 #[.agg #[.int .i64 C.dg, .int .i64 C.tn, .string C.nm, .slice A C.zs.length c, .int .i64 C.wd, .int .i64 C.lf, .int .i64 C.rt], .int .i64 e] w fun r w' => r = .returned (.int .i64 (sbV C e)) ∧ Below w.heap.size w w' := by
  have HV := Lib.hid (show sbV C e = Cl ((2 + e) * 1048576 * (C.lf + C.rt)) (C.lf * C.rt) + 3 * (Ab (P0 C) + Ab (P1 C) + 2) + 4 from rfl)
  obtain ⟨_, ⟨hz, _⟩, _, ⟨a1, a2⟩, ⟨a3, a4⟩, ⟨_, u1, u2⟩, ⟨_, u3, u4⟩⟩ := okCh_iff h1
  obtain ⟨⟨m1, m2⟩, ⟨n1, n2⟩, c1, c2⟩ := sb_bd h1 he1 he2
  obtain ⟨b, o, rfl, hbb, hc0, hcc⟩ := hA.pows hz
  have e1 : IntKind.i64.wrap (C.lf * C.rt) = C.lf * C.rt := wr64 (by omega) (by omega)
  have e2 : IntKind.i64.wrap ((2 + e) * 1048576 * (C.lf + C.rt)) = (2 + e) * 1048576 * (C.lf + C.rt) := wr64 (by omega) (by omega)
  obtain ⟨v1, v2⟩ := Ab_six u1 u2
  obtain ⟨v3, v4⟩ := Ab_six u3 u4
  go_enter Tryz.func48, Tryz.ntmps48
  go_wp2
  go_quiet (fail)
  go_wp2_with (first | (go_at_call 98; refine (up_c _ _ (by omega) (by omega) (by omega) (by omega) (by omega) _).mono ?_; rintro e w' ⟨rfl, rfl⟩))
  all_goals (go_ret; exact ⟨ret_int (by rw [HV.out]; unfold Ab; split <;> split <;> omega), by repeat (with_reducible first | exact Below.refl _ _ | assumption | refine Bel.alloc ?_ _ | refine Bel.step (by assumption) ?_ | refine Below.drew ?_ | refine Bel.drewN ?_ _ | refine Below.setCell ?_ (by first | exact Nat.le_refl _ | omega | (simp; done) | (simp; omega)) _)⟩)
theorem SafeBound_S (C : Ch) (A : Option Addr) (c : Nat) (x : Int) (hn : C.zs.length ≤ 1048576) (hs : C.nm.size ≤ 1048576) (w : World) (hA : Ints w A C.zs) :
    Calls Tryz.prog 11 #[.agg #[.int .i64 C.dg, .int .i64 C.tn, .string C.nm, .slice A C.zs.length c, .int .i64 C.wd, .int .i64 C.lf, .int .i64 C.rt], .int .i64 x] w fun e w' => e = .returned (.tuple #[.int .i64 (sbR C x), .int .i64 (clC C x true)]) ∧ Below w.heap.size w w' := by
  by_cases h1 : okCh C = true
  · by_cases h2 : inB x 0 200 = true
    · obtain ⟨b1, b2⟩ := inB_iff.1 h2
      have HV := Lib.hid (show clC C x true = 0 ∧ sbR C x = sbV C x by simp [sbR, clC, h1, h2])
      go_enter Tryz.func11, Tryz.ntmps11
      go_wp2_with fail
      go_at_call 54; refine (IsChart_S _ _ _ hn hs _ (Ints.alloc _ hA)).mono ?_; rintro e w1 ⟨rfl, hb1⟩; obtain ⟨hc1, hf1, hz1⟩ := bel hb1; (try simp only [World.size_drew, World.cell?_drew, World.frozen?_drew, World.heap_drewN, World.cell?_drewN, World.frozen?_drewN] at hc1 hf1 hz1); (try have hl1 : w.heap.size < w1.heap.size := zl hb1); (try have hm1 : w.heap.size + 1 < w1.heap.size := zl hb1); (try have hn1 : w.heap.size + 1 + 1 < w1.heap.size := zl hb1); (try have hp1 : b < w1.heap.size := zl hb1); (try have ho1 : b' < w1.heap.size := by (have hq := hb1.size; (try simp at hq); omega))
      have hA1 := Ints.step hb1 (Ints.alloc _ hA)
      go_wp2_with fail
      go_at_call 55; refine (l01In_c _ _ _ _).mono ?_; rintro e w' ⟨rfl, rfl⟩
      rw [h2]
      go_wp2_with fail
      go_at_call 49; refine (l27Safe_c _ _ _ _ h1 b1 b2 _ hA1).mono ?_; rintro e w3 ⟨rfl, hb3⟩; obtain ⟨hc3, hf3, hz3⟩ := bel hb3; (try simp only [World.size_drew, World.cell?_drew, World.frozen?_drew, World.heap_drewN, World.cell?_drewN, World.frozen?_drewN] at hc3 hf3 hz3); (try have hl3 : w.heap.size < w3.heap.size := zl hb3); (try have hm3 : w.heap.size + 1 < w3.heap.size := zl hb3); (try have hn3 : w.heap.size + 1 + 1 < w3.heap.size := zl hb3); (try have hp3 : b < w3.heap.size := zl hb3); (try have ho3 : b' < w3.heap.size := by (have hq := hb3.size; (try simp at hq); omega))
      go_wp2
      go_ret2
      exact ⟨by rw [HV.out.1, HV.out.2]; rfl, by repeat (with_reducible first | exact Below.refl _ _ | assumption | refine Bel.alloc ?_ _ | refine Bel.step (by assumption) ?_ | refine Below.drew ?_ | refine Bel.drewN ?_ _ | refine Below.setCell ?_ (by first | exact Nat.le_refl _ | omega | (simp; done) | (simp; omega)) _)⟩
    · have h2' : inB x 0 200 = false := by simpa using h2
      have HV := Lib.hid (show clC C x true = 2 ∧ sbR C x = 0 by simp [sbR, clC, h1, h2'])
      clear h2
      go_enter Tryz.func11, Tryz.ntmps11
      go_wp2_with fail
      go_at_call 54; refine (IsChart_S _ _ _ hn hs _ (Ints.alloc _ hA)).mono ?_; rintro e w1 ⟨rfl, hb1⟩; obtain ⟨hc1, hf1, hz1⟩ := bel hb1; (try simp only [World.size_drew, World.cell?_drew, World.frozen?_drew, World.heap_drewN, World.cell?_drewN, World.frozen?_drewN] at hc1 hf1 hz1); (try have hl1 : w.heap.size < w1.heap.size := zl hb1); (try have hm1 : w.heap.size + 1 < w1.heap.size := zl hb1); (try have hn1 : w.heap.size + 1 + 1 < w1.heap.size := zl hb1); (try have hp1 : b < w1.heap.size := zl hb1); (try have ho1 : b' < w1.heap.size := by (have hq := hb1.size; (try simp at hq); omega))
      go_wp2_with (first | (go_at_call 55; refine (l01In_c _ _ _ _).mono ?_; rintro e w' ⟨rfl, rfl⟩))
      go_ret2
      exact ⟨by rw [HV.out.1, HV.out.2]; rfl, by repeat (with_reducible first | exact Below.refl _ _ | assumption | refine Bel.alloc ?_ _ | refine Bel.step (by assumption) ?_ | refine Below.drew ?_ | refine Bel.drewN ?_ _ | refine Below.setCell ?_ (by first | exact Nat.le_refl _ | omega | (simp; done) | (simp; omega)) _)⟩
  · have h1' : okCh C = false := by simpa using h1
    have HV := Lib.hid (show clC C x true = 1 ∧ sbR C x = 0 by simp [sbR, clC, h1'])
    clear h1
    go_enter Tryz.func11, Tryz.ntmps11
    go_wp2_with fail
    go_at_call 54; refine (IsChart_S _ _ _ hn hs _ (Ints.alloc _ hA)).mono ?_; rintro e w1 ⟨rfl, hb1⟩; obtain ⟨hc1, hf1, hz1⟩ := bel hb1; (try simp only [World.size_drew, World.cell?_drew, World.frozen?_drew, World.heap_drewN, World.cell?_drewN, World.frozen?_drewN] at hc1 hf1 hz1); (try have hl1 : w.heap.size < w1.heap.size := zl hb1); (try have hm1 : w.heap.size + 1 < w1.heap.size := zl hb1); (try have hn1 : w.heap.size + 1 + 1 < w1.heap.size := zl hb1); (try have hp1 : b < w1.heap.size := zl hb1); (try have ho1 : b' < w1.heap.size := by (have hq := hb1.size; (try simp at hq); omega))
    go_wp2
    go_ret2
    exact ⟨by rw [HV.out.1, HV.out.2]; rfl, by repeat (with_reducible first | exact Below.refl _ _ | assumption | refine Bel.alloc ?_ _ | refine Bel.step (by assumption) ?_ | refine Below.drew ?_ | refine Bel.drewN ?_ _ | refine Below.setCell ?_ (by first | exact Nat.le_refl _ | omega | (simp; done) | (simp; omega)) _)⟩
theorem SafeBound_I (C : Ch) (A : Option Addr) (c : Nat) (x : Int) (hn : C.zs.length ≤ 1048576) (hs : C.nm.size ≤ 1048576) (w : World) (hA : Ints w A C.zs) :
    Calls Tryz.prog 10 #[.agg #[.int .i64 C.dg, .int .i64 C.tn, .string C.nm, .slice A C.zs.length c, .int .i64 C.wd, .int .i64 C.lf, .int .i64 C.rt], .int .i64 x] w fun e w' => e = .returned (.tuple #[.int .i64 (sbR C x), .int .i64 (clC C x true)]) ∧ Below w.heap.size w w' := by
  have hP : ∀ W : World, Prs W none [] := fun W h => absurd h (by simp)
  by_cases h1 : clC C x true = 0
  · obtain ⟨c1, _, c3⟩ := clC_0 h1
    obtain ⟨b1, b2⟩ := inB_iff.1 c3
    have HV := Lib.hid (show clC C x true = 0 ∧ sbR C x = sbV C x from ⟨h1, by simp [sbR, h1]⟩)
    clear h1
    go_enter Tryz.func10, Tryz.ntmps10
    go_wp2_with fail
    refine (checkLine_c C A c x none 0 [] hn hs (by simp) _ (Ints.alloc _ hA) (hP _)).mono ?_; rintro e w1 ⟨rfl, hb1⟩
    obtain ⟨hc1, hf1, hz1⟩ := bel hb1
    have hl1 : w.heap.size < w1.heap.size := by have := hb1.size; simp at this; omega
    rw [show okFs [] = true from rfl, HV.out.1]
    have hA1 := Ints.step hb1 (Ints.alloc _ hA)
    go_wp2_with fail
    refine (safeBound_c C A c x c1 b1 b2 _ hA1).mono ?_; rintro e w2 ⟨rfl, hb2⟩
    go_wp2
    go_ret2
    exact ⟨by rw [HV.out.1, HV.out.2]; rfl, by repeat (with_reducible first | exact Below.refl _ _ | assumption | refine Bel.alloc ?_ _ | refine Bel.step (by assumption) ?_ | refine Below.drew ?_ | refine Bel.drewN ?_ _ | refine Below.setCell ?_ (by first | exact Nat.le_refl _ | omega | (simp; done) | (simp; omega)) _)⟩
  · have HV := Lib.hid (show sbR C x = 0 by simp [sbR, h1])
    have b1 : (clC C x true != 0) = true := by simpa using h1
    clear h1
    go_enter Tryz.func10, Tryz.ntmps10
    go_wp2_with fail
    refine (checkLine_c C A c x none 0 [] hn hs (by simp) _ (Ints.alloc _ hA) (hP _)).mono ?_; rintro e w1 ⟨rfl, hb1⟩
    rw [show okFs [] = true from rfl]
    go_wp2
    go_ret2
    exact ⟨by rw [HV.out]; rfl, by repeat (with_reducible first | exact Below.refl _ _ | assumption | refine Bel.alloc ?_ _ | refine Bel.step (by assumption) ?_ | refine Below.drew ?_ | refine Bel.drewN ?_ _ | refine Below.setCell ?_ (by first | exact Nat.le_refl _ | omega | (simp; done) | (simp; omega)) _)⟩
end Go.Proofs.YtpmcgicopogbhaaGreat
