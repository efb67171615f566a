/- Chapter 28: what the statement FnModels says, plainly. No conditions. -/
import Derived.Test.YtpmcgicopogbhaaProg
import Derived.Test.YtpmcgicopogbhaaBase
import Derived.Test.YtpmcgicopogbhaaL01
import Derived.Test.YtpmcgicopogbhaaCp
import Derived.Test.YtpmcgicopogbhaaL28
import Derived.Test.YtpmcgicopogbhaaL28b
import Derived.Test.YtpmcgicopogbhaaL28c
import Derived.Test.YtpmcgicopogbhaaL28d
import Derived.WalkKit
import Derived.Lib.Hide
namespace Go.Proofs.Ytpmcgicopogbhaa
open Go.RowKit
set_option linter.unusedVariables false
theorem fa_any (s z lim : Int) (zs : List (Int × Int)) (hl : 0 ≤ lim) (k : Nat) (hk : k ≤ zs.length) : 0 < (faN s z lim zs k).length ↔ lim < fitV s z (zs.take k) := by
  induction k with
  | zero =>
    constructor
    · intro h; simp [faN] at h
    · intro h; simp [fitV] at h; omega
  | succ k ih =>
    have ih := ih (by omega)
    rw [fitV_step s z zs k (by omega), faN, getD_at _ _ _ (show k < zs.length by omega), List.length_append]
    generalize Er s z zs[k].1 zs[k].2 = e at *
    generalize fitV s z (zs.take k) = f at *
    unfold mx
    by_cases he : lim < e
    · rw [if_pos he]
      constructor
      · intro _; split <;> omega
      · intro _; simp
    · rw [if_neg he]
      simp only [List.length_nil, Nat.add_zero]
      rw [ih]
      split <;> omega
theorem far_fit {s z lim : Int} {zs : List (Int × Int)} (h : farC s z lim zs = 0) : fitOfE s z zs = 0 ∧ (0 < (farL s z lim zs).length ↔ lim < fitOfV s z zs) := by
  unfold farC at h
  by_cases h1 : isModel s z = true
  · rw [if_pos h1] at h
    by_cases h2 : codeT zs = 0
    · rw [if_pos h2] at h
      by_cases h3 : inB lim 0 100000 = true
      · obtain ⟨c4, c5⟩ := codeT_0 h2
        have hF : farC s z lim zs = 0 := by simp [farC, h1, h2, h3]
        have hL : farL s z lim zs = faN s z lim zs zs.length := by simp [farL, hF]
        have hV : fitOfV s z zs = fitV s z zs := by simp [fitOfV, h1, c4, c5]
        have := fa_any s z lim zs (inB_iff.1 h3).1 zs.length (Nat.le_refl _)
        rw [List.take_length] at this
        refine ⟨by simp [fitOfE, h1, h2], ?_⟩
        rw [hL, hV]
        exact this
      · rw [if_neg h3] at h; cases h
    · rw [if_neg h2] at h; exact absurd h h2
  · rw [if_neg h1] at h; cases h
theorem corr_facts {s z n : Int} (h : corrE s z n = 0) : (0 ≤ n ∧ n ≤ 100000) ∧ ∃ p : Int, corrV s z n = p ∧ seenAtE s z p = 0 ∧ (-3000002000000 ≤ seenAtV s z p ∧ seenAtV s z p ≤ 3000002000000) ∧
    ∀ y, 0 ≤ y → y ≤ 100000 → seenAtE s z y = 0 ∧ (-3000002000000 ≤ seenAtV s z y ∧ seenAtV s z y ≤ 3000002000000) ∧ Ab (n - seenAtV s z p) ≤ Ab (n - seenAtV s z y) := by
  unfold corrE at h
  by_cases h1 : isModel s z = true
  · rw [if_pos h1] at h
    by_cases h2 : inB n 0 100000 = true
    · obtain ⟨m1, m2, m3, m4⟩ := isModel_iff h1
      have hV : corrV s z n = (bst (fun t => Er s z t n) 100001 : Nat) := by simp [corrV, h1, h2]
      obtain ⟨b1, b2, _⟩ := bst_char (fun t => Er s z t n) 100001 (by omega)
      have hs : ∀ y, 0 ≤ y → y ≤ 100000 → seenAtE s z y = 0 ∧ seenAtV s z y = Sn s z y ∧ (-3000002000000 ≤ seenAtV s z y ∧ seenAtV s z y ≤ 3000002000000) := by
        intro y y1 y2
        have h3 : inB y 0 100000 = true := inB_iff.2 ⟨y1, y2⟩
        have e : seenAtV s z y = Sn s z y := by simp [seenAtV, h1, h3]
        refine ⟨by simp [seenAtE, h1, h3], e, ?_⟩
        rw [e]
        exact Sn_bd s z y (by omega) (by omega) (by omega) (by omega) (by omega) (by omega)
      obtain ⟨k1, k2, k3⟩ := hs (bst (fun t => Er s z t n) 100001 : Nat) (by omega) (by omega)
      refine ⟨inB_iff.1 h2, _, hV, k1, k3, fun y y1 y2 => ?_⟩
      obtain ⟨j1, j2, j3⟩ := hs y y1 y2
      refine ⟨j1, j3, ?_⟩
      have := b2 y.toNat (by omega)
      rw [show ((y.toNat : Nat) : Int) = y by omega] at this
      rw [k2, j2]
      exact this
    · rw [if_neg h2] at h; cases h
  · rw [if_neg h1] at h; cases h
theorem bm_facts {step : Int} {zs : List (Int × Int)} (h : bmC step zs = 0) : (bmZ step zs).tmod step = 0 ∧ isModel (bmS step zs) (bmZ step zs) = true ∧ (1000 ≤ step ∧ step ≤ 100000) ∧
    ∀ q, -1 ≤ q → q ≤ 1 → bShC (step * q) zs = 0 ∧ bmF step zs ≤ bShF (step * q) zs := by
  unfold bmC at h
  by_cases h1 : codeT zs = 0
  · rw [if_pos h1] at h
    by_cases h2 : inB step 1000 100000 = true
    · obtain ⟨s1, s2⟩ := inB_iff.1 h2
      obtain ⟨_, e1, e2, e3⟩ := bm_0 h1 h2
      obtain ⟨k1, k2, k3, k4⟩ := mdK_bd s1 s2
      have hN := mdN_is s1 s2
      obtain ⟨b1, b2, _⟩ := bst_char (mdF step zs) (mdN step) (by omega)
      have hi := md_in s1 s2 b1
      refine ⟨?_, ?_, ⟨s1, s2⟩, fun q q1 q2 => ?_⟩
      · rw [e2]; unfold mdZ; exact Int.mul_tmod_left _ _
      · have := shiftV_bd (mdZ step zs) zs
        rw [e1, e2]
        unfold isModel
        rw [inB_iff.2 this, inB_iff.2 (show -100000 ≤ mdZ step zs ∧ mdZ step zs ≤ 100000 from hi)]; rfl
      · have hq : -100000 ≤ step * q ∧ step * q ≤ 100000 := by
          rcases (show q = -1 ∨ q = 0 ∨ q = 1 by omega) with rfl | rfl | rfl <;> omega
        obtain ⟨f1, _, f2⟩ := bSh_0 h1 (inB_iff.2 hq)
        refine ⟨f1, ?_⟩
        rw [f2, e3]
        have hb := b2 (mdK step + q).toNat (by omega)
        have e4 : mdF step zs ((mdK step + q).toNat : Nat) = shiftF (step * q) zs := by
          unfold mdF
          rw [show (((mdK step + q).toNat : Nat) : Int) - mdK step = q by omega, Int.mul_comm]
        rw [e4] at hb
        exact hb
    · rw [if_neg h2] at h; cases h
  · rw [if_neg h1] at h; exact absurd h h1
end Go.Proofs.Ytpmcgicopogbhaa
