/- Chapter 28: what the statement FnWear says, plainly. No conditions. -/
import Derived.Test.YthfphjbaglgacaaProg
import Derived.Test.YthfphjbaglgacaaBase
import Derived.Test.YthfphjbaglgacaaL01
import Derived.Test.YthfphjbaglgacaaCp
import Derived.Test.YthfphjbaglgacaaL28
import Derived.Test.YthfphjbaglgacaaL28b
import Derived.WalkKit
import Derived.Lib.Hide
namespace Go.Proofs.Ythfphjbaglgacaa
open Go.RowKit
set_option linter.unusedVariables false
theorem seen_next {s z t : Int} (h : seenAtE s z t = 0) (ht : t < 100000) : seenAtE s z (t + 1) = 0 ∧ seenAtV s z t ≤ seenAtV s z (t + 1) := by
  unfold seenAtE at h
  by_cases h1 : isModel s z = true
  · rw [if_pos h1] at h
    by_cases h2 : inB t 0 100000 = true
    · have b := inB_iff.1 h2
      have h3 : inB (t + 1) 0 100000 = true := inB_iff.2 (by omega)
      refine ⟨by simp [seenAtE, h1, h3], ?_⟩
      simp only [seenAtV, h1, h2, h3, Bool.and_self, if_true]
      exact (Sn_step s z t (t + 1) (isModel_iff h1).2.2.1 (by omega)).1
    · rw [if_neg h2] at h; cases h
  · rw [if_neg h1] at h; cases h
theorem shift_best {z : Int} {zs : List (Int × Int)} (h : bShC z zs = 0) : fitOfE (bShV z zs) z zs = 0 ∧ fitOfV (bShV z zs) z zs = bShF z zs ∧ ∀ x, -200 ≤ x → x ≤ 200 → fitOfE x z zs = 0 ∧ bShF z zs ≤ fitOfV x z zs := by
  have hc : codeT zs = 0 ∧ inB z (-100000) 100000 = true := by
    unfold bShC at h
    by_cases h1 : codeT zs = 0
    · rw [if_pos h1] at h
      by_cases h2 : inB z (-100000) 100000 = true
      · exact ⟨h1, h2⟩
      · rw [if_neg h2] at h; cases h
    · rw [if_neg h1] at h; exact absurd h h1
  obtain ⟨c1, c2⟩ := codeT_0 hc.1
  have hv : ∀ x, -200 ≤ x → x ≤ 200 → fitOfE x z zs = 0 ∧ fitOfV x z zs = fitV x z zs := by
    intro x h1 h2
    have hm : isModel x z = true := by simp [isModel, hc.2, inB_iff.2 ⟨h1, h2⟩]
    exact ⟨by simp [fitOfE, hm, hc.1], by simp [fitOfV, hm, c1, c2]⟩
  obtain ⟨b1, b2, _⟩ := bst_char (gS z zs) 401 (by omega)
  have e1 : bShV z zs = shiftV z zs := by simp [bShV, h]
  have e2 : bShF z zs = shiftF z zs := by simp [bShF, h]
  rw [e1, e2]
  obtain ⟨k1, k2⟩ := hv (shiftV z zs) (by unfold shiftV; omega) (by unfold shiftV; omega)
  refine ⟨k1, k2, fun x h1 h2 => ?_⟩
  obtain ⟨j1, j2⟩ := hv x h1 h2
  refine ⟨j1, ?_⟩
  rw [j2]
  have hb := b2 (x + 200).toNat (by omega)
  unfold shiftF
  refine Int.le_trans hb ?_
  unfold gS
  rw [show (((x + 200).toNat : Nat) : Int) - 200 = x by omega]
  exact Int.le_refl _
end Go.Proofs.Ythfphjbaglgacaa
