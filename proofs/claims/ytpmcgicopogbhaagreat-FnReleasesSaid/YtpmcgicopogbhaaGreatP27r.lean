/- Chapter 27: what the statement FnReleases says, plainly. No conditions. -/
import Derived.Test.YtpmcgicopogbhaaGreatProg
import Derived.Test.YtpmcgicopogbhaaGreatBase
import Derived.Test.YtpmcgicopogbhaaGreatL01
import Derived.Test.YtpmcgicopogbhaaGreatCp
import Derived.Test.YtpmcgicopogbhaaGreatL18
import Derived.Test.YtpmcgicopogbhaaGreatL23
import Derived.Test.YtpmcgicopogbhaaGreatL03
import Derived.Test.YtpmcgicopogbhaaGreatL04
import Derived.Test.YtpmcgicopogbhaaGreatL23d
import Derived.Test.YtpmcgicopogbhaaGreatL23e
import Derived.Test.YtpmcgicopogbhaaGreatL24
import Derived.Test.YtpmcgicopogbhaaGreatL24b
import Derived.Test.YtpmcgicopogbhaaGreatL24c
import Derived.Test.YtpmcgicopogbhaaGreatL24f
import Derived.Test.YtpmcgicopogbhaaGreatL24g
import Derived.Test.YtpmcgicopogbhaaGreatL24r
import Derived.Test.YtpmcgicopogbhaaGreatL24s
import Derived.Test.YtpmcgicopogbhaaGreatL27o
import Derived.Test.YtpmcgicopogbhaaGreatL27a
import Derived.Test.YtpmcgicopogbhaaGreatL27b
import Derived.Test.YtpmcgicopogbhaaGreatL27c
import Derived.Test.YtpmcgicopogbhaaGreatL27t
import Derived.Test.YtpmcgicopogbhaaGreatL27u
import Derived.Test.YtpmcgicopogbhaaGreatL27v
import Derived.Test.YtpmcgicopogbhaaGreatL27w
import Derived.Test.YtpmcgicopogbhaaGreatM24
import Derived.Test.YtpmcgicopogbhaaGreatP24w
import Derived.WalkKit
import Derived.Lib.Hide
namespace Go.Proofs.YtpmcgicopogbhaaGreat
open Go.RowKit
set_option linter.unusedVariables false
theorem sbn {C : Ch} {e : Int} (h : okCh C = true) (he : 0 ≤ e) : 0 ≤ sbV C e := by
  obtain ⟨_, _, _, ⟨a1, a2⟩, ⟨a3, a4⟩, _, _⟩ := okCh_iff h
  have hd : 0 < C.lf * C.rt := Int.mul_pos (by omega) (by omega)
  have h0 : 0 ≤ (2 + e) * 1048576 * (C.lf + C.rt) := Int.mul_nonneg (by omega) (by omega)
  have := le_Cl_of (x := 0) hd (by omega : 0 * (C.lf * C.rt) ≤ (2 + e) * 1048576 * (C.lf + C.rt))
  have a0 : 0 ≤ Ab (P0 C) := by unfold Ab; split <;> omega
  have b0 : 0 ≤ Ab (P1 C) := by unfold Ab; split <;> omega
  unfold sbV
  omega
theorem rel_bo {R : Re} {x : Int} (h : okRe R = true) (h1 : 0 ≤ x) (h2 : x ≤ 1048576) : okRe { R with bo := x } = true := by
  have hb : inB x 0 1048576 = true := inB_iff.2 ⟨h1, h2⟩
  simp only [okRe, Bool.and_eq_true] at h ⊢
  exact ⟨⟨⟨⟨⟨h.1.1.1.1.1, hb⟩, h.1.1.1.2⟩, h.1.1.2⟩, h.1.2⟩, h.2⟩
theorem tp_pk {R : Re} {ud ut vd vt : Int} (h : tpC R ud ut vd vt = 0) : okRe R = true ∧ okF ud ut = true ∧ okF vd vt = true := by
  unfold tpC at h
  by_cases hp : pkC R ud ut vd vt = 0
  · exact pkC_0 hp
  · rw [if_neg hp] at h; exact absurd h hp
/-- The span of the exact value lies in that of a release's readings. -/
theorem rl_es {R : Re} {ud ut vd vt : Int} (h : rlC R ud ut vd vt = 0) : esC R.ch ud ut vd vt = 0 ∧
    btB (rl0 R ud ut vd vt) (rl1 R ud ut vd vt) (es0 R.ch ud ut vd vt) (es1 R.ch ud ut vd vt) (rl2 R ud ut vd vt) (rl3 R ud ut vd vt) = true ∧
    btB (rl0 R ud ut vd vt) (rl1 R ud ut vd vt) (es2 R.ch ud ut vd vt) (es3 R.ch ud ut vd vt) (rl2 R ud ut vd vt) (rl3 R ud ut vd vt) = true := by
  have ht : tpC R ud ut vd vt = 0 := by
    unfold rlC at h
    by_cases ht : tpC R ud ut vd vt = 0
    · exact ht
    · rw [if_neg ht] at h; exact absurd h ht
  have hs : spC (rlA R ud ut vd vt) (rlB R ud ut vd vt) = 0 := by
    unfold rlC at h
    rw [if_pos ht] at h; exact h
  obtain ⟨f1, f2, f3⟩ := tp_pk ht
  have fch := (okRe_iff f1).1
  have hb := inB_iff.1 (okRe_iff f1).2.2.2.2.2.2.1
  have hc0 : clC R.ch 0 (okF ud ut && okF vd vt) = 0 := clC_mk2 fch (by simp [f2, f3]) (by omega) (by omega)
  have hf := fm_le fch ud ut vd vt
  obtain ⟨k1, k2, k3⟩ := sp_in hs (L := fmL R.ch ud ut vd vt) (H := fmH R.ch ud ut vd vt) (by unfold rlA; omega) hf (by unfold rlB; omega)
  have hv : ∀ x, rlV R ud ut vd vt x = x := fun x => by simp [rlV, ht, spV, hs]
  have hw : ∀ x, esV R.ch ud ut vd vt x = x := fun x => by simp [esV, hc0, spV, k1]
  refine ⟨by simp [esC, hc0, k1], ?_, ?_⟩
  · simp only [rl0, rl1, rl2, rl3, es0, es1, hv, hw]; exact k2
  · simp only [rl0, rl1, rl2, rl3, es2, es3, hv, hw]; exact k3
theorem wr_ok {R : Re} {hd ht : Int} (h : wrC R hd ht = 0) : okRe (wrV R hd ht) = true := by
  unfold wrC at h
  by_cases h1 : (okRe R && okF hd ht) = true
  · rw [if_pos h1] at h
    by_cases h2 : okRe (wrR R hd ht) = true
    · rw [(wr_0 h1 h2).2]; exact h2
    · rw [if_neg h2] at h; cases h
  · rw [if_neg h1] at h; cases h
/-- What is known of a pair that may be asked for. -/
theorem ic_is {R : Re} {ud ut vd vt : Int} (h : pkC R ud ut vd vt = 0) : okF ud ut = true ∧ okF vd vt = true ∧ okF R.ad R.at_ = true ∧ okF R.bd R.bt = true ∧ okF R.cd R.ct = true ∧ okF R.dd R.dt = true ∧
    icB R ud ut vd vt = ((decide (fc R.ad R.at_ ud ut ≤ 0) && decide (fc ud ut R.bd R.bt ≤ 0)) && (decide (fc R.cd R.ct vd vt ≤ 0) && decide (fc vd vt R.dd R.dt ≤ 0))) := by
  obtain ⟨h1, h2, h3⟩ := pkC_0 h
  obtain ⟨_, a1, a2, a3, a4, _⟩ := okRe_iff h1
  exact ⟨h2, h3, a1, a2, a3, a4, by simp [icB, h, cvR, liB]⟩
/-- What is known of a tightened release. -/
theorem tb_rel {R : Re} (h : tbC R = 0) : ikC (tbV R) = 0 ∧ ikB (tbV R) = true ∧ clC R.ch R.ey true = 0 ∧ sbR R.ch R.ey = (tbV R).bo := by
  have h0 := h
  unfold tbC at h
  by_cases h1 : okRe R = true
  · rw [if_pos h1] at h
    by_cases h2 : sbV R.ch R.ey ≤ 1048576
    · obtain ⟨g1, _, _, _, _, g2, _⟩ := okRe_iff h1
      have g3 := inB_iff.1 g2
      have e : tbV R = { R with bo := sbV R.ch R.ey } := by simp [tbV, h0]
      have ho := rel_bo h1 (sbn g1 g3.1) h2
      have hc : clC R.ch R.ey true = 0 := by simp [clC, g1, g2]
      rw [e]
      exact ⟨by simp [ikC, ho], by simp [ikB, ho], hc, by simp [sbR, hc]⟩
    · rw [if_neg h2] at h; cases h
  · rw [if_neg h1] at h; cases h
end Go.Proofs.YtpmcgicopogbhaaGreat
