/- Chapter 27: a covered pair has its places on the chart. No conditions. -/
import Derived.Test.YtpmcgicopogbhaaProg
import Derived.Test.YtpmcgicopogbhaaBase
import Derived.Test.YtpmcgicopogbhaaRw
import Derived.Test.YtpmcgicopogbhaaL01
import Derived.Test.YtpmcgicopogbhaaCp
import Derived.Test.YtpmcgicopogbhaaL18
import Derived.Test.YtpmcgicopogbhaaL23
import Derived.Test.YtpmcgicopogbhaaL03
import Derived.Test.YtpmcgicopogbhaaL04
import Derived.Test.YtpmcgicopogbhaaL23d
import Derived.Test.YtpmcgicopogbhaaL23e
import Derived.Test.YtpmcgicopogbhaaL23f
import Derived.Test.YtpmcgicopogbhaaL24
import Derived.Test.YtpmcgicopogbhaaL24b
import Derived.Test.YtpmcgicopogbhaaL23g
import Derived.Test.YtpmcgicopogbhaaL23h
import Derived.Test.YtpmcgicopogbhaaL27o
import Derived.Test.YtpmcgicopogbhaaL27a
import Derived.Test.YtpmcgicopogbhaaL27b
import Derived.Test.YtpmcgicopogbhaaL27c
import Derived.WalkKit
import Derived.Lib.Hide
namespace Go.Proofs.Ytpmcgicopogbhaa
open Go.RowKit
set_option linter.unusedVariables false
theorem fg_mono {a b c d : Int} (h1 : okF a b = true) (h2 : okF c d = true) (h : fc a b c d ≤ 0) : fgLo a b ≤ fgLo c d ∧ fgHi a b ≤ fgHi c d := by
  obtain ⟨a1, a2, b1, b2⟩ := okF_iff h1
  obtain ⟨c1, c2, d1, d2⟩ := okF_iff h2
  have hx : 10000 * b + a ≤ 10000 * d + c := by
    unfold fc at h
    (repeat' split at h) <;> omega
  rcases Int.lt_or_le b d with hbd | hbd
  · have p := lgLo_bd (a * 100000) (by omega) (by omega)
    have q := lgLo_bd (c * 100000) (by omega) (by omega)
    have r := lgHi_bd (a * 100000) (by omega) (by omega)
    have s := lgHi_bd (c * 100000) (by omega) (by omega)
    unfold fgLo fgHi
    omega
  · have e : b = d := by omega
    subst e
    have p := lgLo_mono (x := a * 100000) (y := c * 100000) (by omega) (by omega) (by omega)
    have q := lgHi_mono (x := a * 100000) (y := c * 100000) (by omega) (by omega) (by omega)
    unfold fgLo fgHi
    omega
theorem cp_mono {C : Ch} {sc a b c d : Int} (hD : 0 < cpD C sc) (l : fgLo a b ≤ fgLo c d) (h : fgHi a b ≤ fgHi c d) :
    (0 ≤ cpN C sc → cpL C sc a b ≤ cpL C sc c d ∧ cpH C sc a b ≤ cpH C sc c d) ∧ (cpN C sc ≤ 0 → cpL C sc c d ≤ cpL C sc a b ∧ cpH C sc c d ≤ cpH C sc a b) := by
  have hA : cpA C sc a b ≤ cpA C sc c d := by unfold cpA; split <;> omega
  have hB : cpB C sc a b ≤ cpB C sc c d := by unfold cpB; split <;> omega
  constructor
  · intro hN
    have m1 := Int.mul_le_mul_of_nonneg_right hA hN
    have m2 := Int.mul_le_mul_of_nonneg_right hB hN
    unfold cpL cpH
    exact ⟨Fl_mono (by omega) (by unfold mn; split <;> split <;> omega), Cl_mono (by omega) (by unfold mx; split <;> split <;> omega)⟩
  · intro hN
    have m1 := Int.mul_le_mul_of_nonpos_right hA hN
    have m2 := Int.mul_le_mul_of_nonpos_right hB hN
    unfold cpL cpH
    exact ⟨Fl_mono (by omega) (by unfold mn; split <;> split <;> omega), Cl_mono (by omega) (by unfold mx; split <;> split <;> omega)⟩
theorem plC_iff {C : Ch} {sc a b : Int} : plC C sc a b = 0 ↔ (-100000 ≤ cpL C sc a b ∧ cpL C sc a b ≤ 100000) ∧ -100000 ≤ cpH C sc a b ∧ cpH C sc a b ≤ 100000 := by
  unfold plC
  constructor
  · intro h
    split at h
    · rename_i hh
      simp only [Bool.and_eq_true] at hh
      exact ⟨inB_iff.1 hh.1, inB_iff.1 hh.2⟩
    · cases h
  · rintro ⟨h1, h2⟩
    rw [if_pos (by rw [inB_iff.2 h1, inB_iff.2 h2]; rfl)]
theorem pl_between {C : Ch} {sc a b c d e f : Int} (hC : okCh C = true) (h1 : okF a b = true) (h2 : okF c d = true) (h3 : okF e f = true) (l1 : fc a b c d ≤ 0) (l2 : fc c d e f ≤ 0) (p1 : plC C sc a b = 0) (p2 : plC C sc e f = 0) : plC C sc c d = 0 := by
  have hD := (cpD_bd hC sc).1
  obtain ⟨u1, u2⟩ := fg_mono h1 h2 l1
  obtain ⟨v1, v2⟩ := fg_mono h2 h3 l2
  obtain ⟨x1, x2⟩ := cp_mono (C := C) (sc := sc) (by omega) u1 u2
  obtain ⟨y1, y2⟩ := cp_mono (C := C) (sc := sc) (by omega) v1 v2
  rw [plC_iff] at p1 p2 ⊢
  rcases Int.le_total 0 (cpN C sc) with hN | hN
  · have := x1 hN
    have := y1 hN
    omega
  · have := x2 hN
    have := y2 hN
    omega
theorem pcC_two {C : Ch} {sc a b c d : Int} (h : pcC C sc [(a, b), (c, d)] = 0) : plC C sc a b = 0 ∧ plC C sc c d = 0 := by
  unfold pcC at h
  split at h
  · rename_i hh
    simpa [ptOk] using hh
  · cases h
theorem cov_lh {R : Re} {ud ut vd vt : Int} (h : okRe R = true) (hu : okF ud ut = true) (hv : okF vd vt = true) (hc : cvR R ud ut vd vt = true) : lhC R.ch ud ut vd vt = 0 := by
  obtain ⟨k, a, b, c, d, _, _, _, _, p, q⟩ := okRe_iff h
  simp only [cvR, liB, Bool.and_eq_true, decide_eq_true_eq] at hc
  obtain ⟨⟨l1, l2⟩, l3, l4⟩ := hc
  obtain ⟨p1, p2⟩ := pcC_two p
  obtain ⟨q1, q2⟩ := pcC_two q
  have e0 := pl_between k a hu b l1 l2 p1 p2
  have e1 := pl_between k c hv d l3 l4 q1 q2
  simp [lhC, e0, e1]
end Go.Proofs.Ytpmcgicopogbhaa
