/- Chapter 26: layouts, plainly. No conditions. -/
import Derived.Test.YtpmcgicopogbhaaGreatProg
import Derived.Test.YtpmcgicopogbhaaGreatBase
import Derived.Test.YtpmcgicopogbhaaGreatL01
import Derived.Test.YtpmcgicopogbhaaGreatCp
import Derived.Test.YtpmcgicopogbhaaGreatL18
import Derived.Test.YtpmcgicopogbhaaGreatL23
import Derived.Test.YtpmcgicopogbhaaGreatL03
import Derived.Test.YtpmcgicopogbhaaGreatL04
import Derived.Test.YtpmcgicopogbhaaGreatL23d
import Derived.Test.YtpmcgicopogbhaaGreatL23e
import Derived.Test.YtpmcgicopogbhaaGreatL24
import Derived.Test.YtpmcgicopogbhaaGreatL24b
import Derived.Test.YtpmcgicopogbhaaGreatL24c
import Derived.Test.YtpmcgicopogbhaaGreatL24f
import Derived.Test.YtpmcgicopogbhaaGreatL24g
import Derived.Test.YtpmcgicopogbhaaGreatL24r
import Derived.Test.YtpmcgicopogbhaaGreatL23g
import Derived.Test.YtpmcgicopogbhaaGreatL23h
import Derived.Test.YtpmcgicopogbhaaGreatL26a
import Derived.Test.YtpmcgicopogbhaaGreatL26b
import Derived.Test.YtpmcgicopogbhaaGreatL26c
import Derived.Test.YtpmcgicopogbhaaGreatL26h
import Derived.Test.YtpmcgicopogbhaaGreatL26j
import Derived.Test.YtpmcgicopogbhaaGreatL26k
import Derived.Test.YtpmcgicopogbhaaGreatL26l
import Derived.Test.YtpmcgicopogbhaaGreatM24
import Derived.Test.YtpmcgicopogbhaaGreatM24r
import Derived.WalkKit
import Derived.Lib.Hide
namespace Go.Proofs.YtpmcgicopogbhaaGreat
open Go.RowKit
set_option linter.unusedVariables false
theorem wIn_spec (f : Nat → Int) (i : Nat) (s : Int × Int × Int) (m : Nat) : s.1 ≤ (wIn f i s m).1 ∧ (∀ k, k < m → f k ≤ (wIn f i s m).1) ∧ (wIn f i s m = s ∨ ∃ k, k < m ∧ wIn f i s m = (f k, (i : Int), (k : Int))) := by
  induction m with
  | zero => exact ⟨Int.le_refl _, fun k hk => absurd hk (by omega), .inl rfl⟩
  | succ m ih =>
    obtain ⟨h1, h2, h3⟩ := ih
    unfold wIn
    by_cases hc : (wIn f i s m).1 < f m
    · rw [if_pos hc]
      refine ⟨by simp only; omega, fun k hk => ?_, .inr ⟨m, by omega, rfl⟩⟩
      simp only
      by_cases hkm : k = m
      · subst hkm; exact Int.le_refl _
      · have := h2 k (by omega); omega
    · rw [if_neg hc]
      refine ⟨h1, fun k hk => ?_, ?_⟩
      · by_cases hkm : k = m
        · subst hkm; omega
        · exact h2 k (by omega)
      · rcases h3 with h3 | ⟨k, hk, h3⟩
        · exact .inl h3
        · exact .inr ⟨k, by omega, h3⟩
theorem wOut_spec (g : Nat → Nat → Int) (m n : Nat) : (∀ i, i < n → ∀ k, k < m → g i k ≤ (wOut g m n).1) ∧ (wOut g m n = (-1, 0, 0) ∨ ∃ i k, i < n ∧ k < m ∧ wOut g m n = (g i k, (i : Int), (k : Int))) := by
  induction n with
  | zero => exact ⟨fun i hi => absurd hi (by omega), .inl rfl⟩
  | succ n ih =>
    obtain ⟨h1, h2⟩ := ih
    obtain ⟨s1, s2, s3⟩ := wIn_spec (g n) n (wOut g m n) m
    unfold wOut
    refine ⟨fun i hi k hk => ?_, ?_⟩
    · by_cases hin : i = n
      · subst hin; exact s2 k hk
      · have := h1 i (by omega) k hk; omega
    · rcases s3 with s3 | ⟨k, hk, s3⟩
      · rw [s3]
        rcases h2 with h2 | ⟨i, k, hi, hk, h2⟩
        · exact .inl h2
        · exact .inr ⟨i, k, by omega, hk, h2⟩
      · exact .inr ⟨n, k, by omega, hk, s3⟩
/-- What is known of a layout that has an error. -/
structure LyF (C : Ch) (us vs : List (Int × Int)) (e : Int) : Prop where
  ly : lyC C us vs e = 0
  ok : wOk C us vs = true
  v : leV C us vs e = wT C us vs e
  u1 : 1 ≤ us.length
  v1 : 1 ≤ vs.length
  cl : ∀ (i k : Nat) (hi : i < us.length) (hk : k < vs.length), rqC C us[i].1 us[i].2 vs[k].1 vs[k].2 e = 0 ∧ rrV C us[i].1 us[i].2 vs[k].1 vs[k].2 e = reX C us[i].1 us[i].2 vs[k].1 vs[k].2 e ∧ reX C us[i].1 us[i].2 vs[k].1 vs[k].2 e ≤ (leV C us vs e).1
  at_ : ∃ (i k : Nat) (hi : i < us.length) (hk : k < vs.length), (leV C us vs e).2.1 = i ∧ (leV C us vs e).2.2 = k ∧ reX C us[i].1 us[i].2 vs[k].1 vs[k].2 e = (leV C us vs e).1
theorem ly_facts {C : Ch} {us vs : List (Int × Int)} {e : Int} (h : leC C us vs e = 0) : LyF C us vs e := by
  have hl : lyC C us vs e = 0 := by
    unfold leC at h
    by_cases hl : lyC C us vs e = 0
    · exact hl
    · rw [if_neg hl] at h; exact absurd h hl
  obtain ⟨o1, o2, o3, ⟨u1, u2⟩, ⟨v1, v2⟩, e1, e2⟩ := lyC_0 hl
  have hw : wC C us vs = 0 := by rw [← (le_0 hl).1]; exact h
  have ho : wOk C us vs = true := by
    unfold wC at hw
    by_cases ho : wOk C us vs = true
    · exact ho
    · rw [if_neg ho] at hw; cases hw
  have hv : leV C us vs e = wT C us vs e := by rw [(le_0 hl).2]; simp [wV, ho]
  have hlh : ∀ (i k : Nat) (hi : i < us.length) (hk : k < vs.length), lhC C us[i].1 us[i].2 vs[k].1 vs[k].2 = 0 := by
    intro i k hi hk
    exact of_decide_eq_true (List.all_eq_true.1 (List.all_eq_true.1 ho _ (List.getElem_mem hi)) _ (List.getElem_mem hk))
  have hg : ∀ (i k : Nat) (hi : i < us.length) (hk : k < vs.length), wG C us vs e i k = reX C us[i].1 us[i].2 vs[k].1 vs[k].2 e := by
    intro i k hi hk
    unfold wG
    rw [getD_at _ _ _ hi, getD_at _ _ _ hk]
  obtain ⟨s1, s2⟩ := wOut_spec (wG C us vs e) vs.length us.length
  have hpos : ∀ (i k : Nat) (hi : i < us.length) (hk : k < vs.length), 0 ≤ reX C us[i].1 us[i].2 vs[k].1 vs[k].2 e := fun i k hi hk => re_nonneg o1 (hlh i k hi hk) e1
  refine ⟨hl, ho, hv, u1, v1, fun i k hi hk => ?_, ?_⟩
  · have hf := okFs_ix o2 hi
    have hf2 := okFs_ix o3 hk
    have hc : clC C e (okF us[i].1 us[i].2 && okF vs[k].1 vs[k].2) = 0 := by simp [clC, o1, hf, hf2, inB_iff.2 ⟨e1, e2⟩]
    have hq : rqC C us[i].1 us[i].2 vs[k].1 vs[k].2 e = 0 := by rw [(rq_0 hc).1]; exact hlh i k hi hk
    refine ⟨hq, by simp [rrV, hq], ?_⟩
    rw [hv, ← hg i k hi hk]
    exact s1 i hi k hk
  · rcases s2 with s2 | ⟨i, k, hi, hk, s2⟩
    · exfalso
      have h1 := s1 0 (by omega) 0 (by omega)
      rw [s2, hg 0 0 (by omega) (by omega)] at h1
      have := hpos 0 0 (by omega) (by omega)
      simp only at h1
      omega
    · refine ⟨i, k, hi, hk, ?_, ?_, ?_⟩
      · rw [hv]; unfold wT; rw [s2]
      · rw [hv]; unfold wT; rw [s2]
      · rw [hv, ← hg i k hi hk]; unfold wT; rw [s2]
/-- Without an error of the eye there is no greater layout error. -/
theorem ly_zero {C : Ch} {us vs : List (Int × Int)} {e : Int} (h : leC C us vs e = 0) : leC C us vs 0 = 0 ∧ (leV C us vs 0).1 ≤ (leV C us vs e).1 := by
  have f := ly_facts h
  obtain ⟨o1, o2, o3, ⟨u1, u2⟩, ⟨v1, v2⟩, e1, e2⟩ := lyC_0 f.ly
  have hl0 : lyC C us vs 0 = 0 := by
    unfold lyC
    rw [if_pos (by simp [o1, o2, o3]), if_pos (by rw [inB_iff.2 (show (1 : Int) ≤ us.length ∧ (us.length : Int) ≤ 12 by omega), inB_iff.2 (show (1 : Int) ≤ vs.length ∧ (vs.length : Int) ≤ 12 by omega)]; rfl)]
  have h0 : leC C us vs 0 = 0 := by rw [(le_0 hl0).1]; simp [wC, f.ok]
  refine ⟨h0, ?_⟩
  obtain ⟨i, k, hi, hk, _, _, a3⟩ := (ly_facts h0).at_
  rw [← a3]
  have hlh : lhC C us[i].1 us[i].2 vs[k].1 vs[k].2 = 0 := of_decide_eq_true (List.all_eq_true.1 (List.all_eq_true.1 f.ok _ (List.getElem_mem hi)) _ (List.getElem_mem hk))
  exact Int.le_trans (re_mono o1 hlh e1) (f.cl i k hi hk).2.2
end Go.Proofs.YtpmcgicopogbhaaGreat
