/- Chapter 24: what the statement FnAlignment says, plainly. No conditions. -/
import Derived.Test.YthfphjbaglgacaaProg
import Derived.Test.YthfphjbaglgacaaBase
import Derived.Test.YthfphjbaglgacaaL01
import Derived.Test.YthfphjbaglgacaaCp
import Derived.Test.YthfphjbaglgacaaL18
import Derived.Test.YthfphjbaglgacaaL23
import Derived.Test.YthfphjbaglgacaaL03
import Derived.Test.YthfphjbaglgacaaL04
import Derived.Test.YthfphjbaglgacaaL23d
import Derived.Test.YthfphjbaglgacaaL23e
import Derived.Test.YthfphjbaglgacaaL23f
import Derived.Test.YthfphjbaglgacaaL24
import Derived.Test.YthfphjbaglgacaaL24b
import Derived.Test.YthfphjbaglgacaaL24c
import Derived.Test.YthfphjbaglgacaaL24d
import Derived.Test.YthfphjbaglgacaaL24f
import Derived.Test.YthfphjbaglgacaaL24g
import Derived.Test.YthfphjbaglgacaaL24r
import Derived.Test.YthfphjbaglgacaaM24
import Derived.Test.YthfphjbaglgacaaM24r
import Derived.WalkKit
import Derived.Lib.Hide
namespace Go.Proofs.Ythfphjbaglgacaa
open Go.RowKit
set_option linter.unusedVariables false
theorem rq_parts {C : Ch} {ud ut vd vt e : Int} (h : rqC C ud ut vd vt e = 0) : clC C e (okF ud ut && okF vd vt) = 0 ∧ lhC C ud ut vd vt = 0 := by
  unfold rqC at h
  by_cases hq : clC C e (okF ud ut && okF vd vt) = 0
  · rw [if_pos hq] at h; exact ⟨hq, h⟩
  · rw [if_neg hq] at h; exact absurd h hq
theorem clC_mk {C : Ch} {e : Int} {ok : Bool} (h1 : okCh C = true) (h2 : ok = true) (h3 : 0 ≤ e) (h4 : e ≤ 200) : clC C e ok = 0 := by
  have : inB e 0 200 = true := inB_iff.2 ⟨h3, h4⟩
  simp [clC, h1, h2, this]
structure AlF (C : Ch) (ud ut vd vt x : Int) : Prop where
  ok : okCh C = true
  u : okF ud ut = true
  v : okF vd vt = true
  c0 : rqC C ud ut vd vt 0 = 0
  lo : rqL C ud ut vd vt x ≤ fmL C ud ut vd vt
  hi : fmH C ud ut vd vt ≤ rqH C ud ut vd vt x
  lo0 : rqL C ud ut vd vt x ≤ rqL C ud ut vd vt 0
  hi0 : rqH C ud ut vd vt 0 ≤ rqH C ud ut vd vt x
  y : lqL C ud ut vd vt ≤ lqH C ud ut vd vt
  n0 : 0 ≤ rrV C ud ut vd vt x
  n : rqH C ud ut vd vt x - rqL C ud ut vd vt x - (fmH C ud ut vd vt - fmL C ud ut vd vt) - rrV C ud ut vd vt x ≤ rrV C ud ut vd vt x
  b1 : -10000000000000000 ≤ rqL C ud ut vd vt x ∧ rqH C ud ut vd vt x ≤ 10000000000000000
  fm : fmL C ud ut vd vt ≤ fmH C ud ut vd vt
  nb : rrV C ud ut vd vt x ≤ 100000000000000000
theorem al_facts {C : Ch} {ud ut vd vt x : Int} (h : rqC C ud ut vd vt x = 0) : AlF C ud ut vd vt x := by
  obtain ⟨hc, hl⟩ := rq_parts h
  obtain ⟨o1, o2, o3, e1, e2⟩ := clC_e hc
  have hc0 : clC C 0 (okF ud ut && okF vd vt) = 0 := clC_mk o1 (by simp [o2, o3]) (by omega) (by omega)
  obtain ⟨q1, q2, q3⟩ := rq_0 hc
  obtain ⟨r1, r2, r3⟩ := rq_0 hc0
  obtain ⟨s1, s2, s3⟩ := lq_0 hc0
  obtain ⟨i1, i2⟩ := rd_in o1 hl e1
  obtain ⟨m1, m2⟩ := rd_mono o1 hl e1
  obtain ⟨b1, b2, b3, b4⟩ := rd_bd o1 hl e1 e2
  have hn := re_nonneg o1 hl e1
  have hf := fm_le o1 ud ut vd vt
  have hr : rrV C ud ut vd vt x = reX C ud ut vd vt x := by simp [rrV, h]
  have hre : rdH C ud ut vd vt x - fmL C ud ut vd vt ≤ reX C ud ut vd vt x ∧ fmH C ud ut vd vt - rdL C ud ut vd vt x ≤ reX C ud ut vd vt x ∧ (reX C ud ut vd vt x = rdH C ud ut vd vt x - fmL C ud ut vd vt ∨ reX C ud ut vd vt x = fmH C ud ut vd vt - rdL C ud ut vd vt x) := by
    unfold reX mx; split <;> omega
  have hy : lqL C ud ut vd vt ≤ lqH C ud ut vd vt := by
    rw [s2, s3]
    obtain ⟨k0, k1⟩ := lh_ok hl
    obtain ⟨_, f1, f2⟩ := lh_0 k0 k1
    obtain ⟨_, _, _, ⟨a1, a2⟩, ⟨a3, a4⟩, _, _⟩ := okCh_iff o1
    rw [f1, f2]
    unfold lhX lhY
    have p1 : plL C 0 ud ut ≤ plH C 0 ud ut := by
      have : plL C 0 ud ut = cpL C 0 ud ut ∧ plH C 0 ud ut = cpH C 0 ud ut := by simp [plL, plH, k0]
      rw [this.1, this.2]
      obtain ⟨c1, c2⟩ := cp_0 C (by omega) ud ut
      rw [c1, c2]
      exact Int.le_trans (Fl_mono (by omega) (Int.mul_le_mul_of_nonneg_left (fp_le _ _ _) (by omega))) (Fl_le_Cl (by omega))
    have p2 : plL C 1 vd vt ≤ plH C 1 vd vt := by
      have : plL C 1 vd vt = cpL C 1 vd vt ∧ plH C 1 vd vt = cpH C 1 vd vt := by simp [plL, plH, k1]
      rw [this.1, this.2]
      obtain ⟨c1, c2⟩ := cp_1 C (by omega) vd vt
      rw [c1, c2]
      exact Int.le_trans (Fl_mono (by omega) (Int.mul_le_mul_of_nonneg_left (fp_le _ _ _) (by omega))) (Fl_le_Cl (by omega))
    have n1 := Int.mul_le_mul_of_nonneg_left p1 (show 0 ≤ C.rt by omega)
    have n2 := Int.mul_le_mul_of_nonneg_left p2 (show 0 ≤ C.lf by omega)
    exact Int.le_trans (Fl_mono (by omega) (show C.rt * plL C 0 ud ut + C.lf * plL C 1 vd vt ≤ C.rt * plH C 0 ud ut + C.lf * plH C 1 vd vt by omega)) (Fl_le_Cl (by omega))
  exact ⟨o1, o2, o3, by rw [r1]; exact hl, by rw [q2]; exact i1, by rw [q3]; exact i2, by rw [q2, r2]; exact m1, by rw [q3, r3]; exact m2, hy, by rw [hr]; exact hn, by rw [q2, q3, hr]; omega, by rw [q2, q3]; omega, hf, by rw [hr]; omega⟩
end Go.Proofs.Ythfphjbaglgacaa
