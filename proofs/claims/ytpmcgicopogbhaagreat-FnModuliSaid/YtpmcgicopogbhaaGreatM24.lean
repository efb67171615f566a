/- Chapter 24: how readings lie to the value of the formula. No conditions. -/
import Derived.Test.YtpmcgicopogbhaaGreatProg
import Derived.Test.YtpmcgicopogbhaaGreatBase
import Derived.Test.YtpmcgicopogbhaaGreatL01
import Derived.Test.YtpmcgicopogbhaaGreatCp
import Derived.Test.YtpmcgicopogbhaaGreatL18
import Derived.Test.YtpmcgicopogbhaaGreatL23
import Derived.Test.YtpmcgicopogbhaaGreatL03
import Derived.Test.YtpmcgicopogbhaaGreatL04
import Derived.Test.YtpmcgicopogbhaaGreatL23d
import Derived.Test.YtpmcgicopogbhaaGreatL23e
import Derived.Test.YtpmcgicopogbhaaGreatL24
import Derived.Test.YtpmcgicopogbhaaGreatL24b
import Derived.WalkKit
import Derived.Lib.Hide
namespace Go.Proofs.YtpmcgicopogbhaaGreat
open Go.RowKit
set_option linter.unusedVariables false
theorem Fl_mul_le {a b : Int} (hb : 0 < b) : Fl a b * b ≤ a := by
  rw [Fl_pos _ _ hb]
  have := Int.ediv_mul_le a (show b ≠ 0 by omega)
  omega
theorem le_Cl_mul {a b : Int} (hb : 0 < b) : a ≤ Cl a b * b := by
  have := Fl_mul_le (a := -a) hb
  unfold Cl
  rw [Int.neg_mul]; omega
theorem Fl_le_of {a b x : Int} (hb : 0 < b) (h : a ≤ x * b) : Fl a b ≤ x := by
  rw [Fl_pos _ _ hb]
  have := Int.ediv_lt_of_lt_mul hb (show a < (x + 1) * b by rw [Int.add_mul]; omega)
  omega
theorem le_Cl_of {a b x : Int} (hb : 0 < b) (h : x * b ≤ a) : x ≤ Cl a b := by
  have := Fl_le_of (a := -a) (x := -x) hb (by rw [Int.neg_mul]; omega)
  unfold Cl; omega
theorem le_Fl_of {a b x : Int} (hb : 0 < b) (h : x * b ≤ a) : x ≤ Fl a b := by
  rw [Fl_pos _ _ hb]
  exact Int.le_ediv_of_mul_le hb h
theorem Cl_le_of {a b x : Int} (hb : 0 < b) (h : a ≤ x * b) : Cl a b ≤ x := by
  have := le_Fl_of (a := -a) (x := -x) hb (by rw [Int.neg_mul]; omega)
  unfold Cl; omega
theorem mn_mul {L x y : Int} (h : 0 ≤ L) : mn (L * x) (L * y) = L * mn x y := by
  have h1 : x ≤ y → L * x ≤ L * y := fun k => Int.mul_le_mul_of_nonneg_left k h
  have h2 : y ≤ x → L * y ≤ L * x := fun k => Int.mul_le_mul_of_nonneg_left k h
  unfold mn
  split <;> split <;> omega
theorem mx_mul {L x y : Int} (h : 0 ≤ L) : mx (L * x) (L * y) = L * mx x y := by
  have h1 : x ≤ y → L * x ≤ L * y := fun k => Int.mul_le_mul_of_nonneg_left k h
  have h2 : y ≤ x → L * y ≤ L * x := fun k => Int.mul_le_mul_of_nonneg_left k h
  unfold mx
  split <;> split <;> omega
theorem mn_le_mx (x y : Int) : mn x y ≤ mx x y := by unfold mn mx; split <;> omega
/-- The two ends of a multiple of a figure's logarithm. -/
def fpL (p dg tn : Int) : Int := mn (fgLo dg tn * p) (fgHi dg tn * p)
def fpH (p dg tn : Int) : Int := mx (fgLo dg tn * p) (fgHi dg tn * p)
theorem fp_le (p dg tn : Int) : fpL p dg tn ≤ fpH p dg tn := mn_le_mx _ _
theorem cp_0 (C : Ch) (hl : 0 ≤ C.lf) (dg tn : Int) : cpL C 0 dg tn = Fl (C.lf * fpL (P0 C) dg tn) 1048576 ∧ cpH C 0 dg tn = Cl (C.lf * fpH (P0 C) dg tn) 1048576 := by
  simp only [cpL, cpH, cpN, cpD, cpA, cpB, if_true, fpL, fpH, ← mn_mul hl, ← mx_mul hl, show ((0 : Int) = 2) = False by simp, if_false, Int.one_mul]
  rw [Int.mul_left_comm, Int.mul_left_comm (fgHi dg tn)]
  exact ⟨rfl, rfl⟩
theorem cp_1 (C : Ch) (hl : 0 ≤ C.rt) (dg tn : Int) : cpL C 1 dg tn = Fl (C.rt * fpL (P1 C) dg tn) 1048576 ∧ cpH C 1 dg tn = Cl (C.rt * fpH (P1 C) dg tn) 1048576 := by
  simp only [cpL, cpH, cpN, cpD, cpA, cpB, if_true, fpL, fpH, ← mn_mul hl, ← mx_mul hl, show ((1 : Int) = 2) = False by simp, show ((1 : Int) = 0) = False by simp, if_false, Int.one_mul]
  rw [Int.mul_left_comm, Int.mul_left_comm (fgHi dg tn)]
  exact ⟨rfl, rfl⟩
theorem fm_eq (C : Ch) (ud ut vd vt : Int) : fmL C ud ut vd vt = fgLo C.dg C.tn + fpL (P0 C) ud ut + fpL (P1 C) vd vt ∧ fmH C ud ut vd vt = fgHi C.dg C.tn + fpH (P0 C) ud ut + fpH (P1 C) vd vt := by
  constructor <;> rfl
theorem fg_le {dg tn : Int} (h : okF dg tn = true) : fgLo dg tn ≤ fgHi dg tn := by
  obtain ⟨a, b, _, _⟩ := okF_iff h
  have := fg_lt (tn := tn) a b
  omega
theorem okCh_fac {C : Ch} (h : okCh C = true) : okF C.dg C.tn = true := by
  simp only [okCh, okFm, Bool.and_eq_true] at h
  exact h.1.1.1.1.1.1.1
theorem fm_le {C : Ch} (h : okCh C = true) (ud ut vd vt : Int) : fmL C ud ut vd vt ≤ fmH C ud ut vd vt := by
  obtain ⟨e1, e2⟩ := fm_eq C ud ut vd vt
  have := fg_le (okCh_fac h)
  have := fp_le (P0 C) ud ut
  have := fp_le (P1 C) vd vt
  omega
theorem lh_ok {C : Ch} {ud ut vd vt : Int} (hc : lhC C ud ut vd vt = 0) : plC C 0 ud ut = 0 ∧ plC C 1 vd vt = 0 := by
  unfold lhC at hc
  split at hc
  · assumption
  · cases hc
/-- The heights, with their roundings opened. -/
theorem lh_open {C : Ch} {ud ut vd vt : Int} (h : okCh C = true) (hc : lhC C ud ut vd vt = 0) : (C.lf + C.rt) * 1048576 * lhL C ud ut vd vt ≤ C.lf * C.rt * (fpL (P0 C) ud ut + fpL (P1 C) vd vt) ∧ C.lf * C.rt * (fpH (P0 C) ud ut + fpH (P1 C) vd vt) ≤ (C.lf + C.rt) * 1048576 * lhH C ud ut vd vt := by
  obtain ⟨k0, k1⟩ := lh_ok hc
  obtain ⟨_, e1, e2⟩ := lh_0 k0 k1
  obtain ⟨_, _, _, ⟨a1, a2⟩, ⟨a3, a4⟩, _, _⟩ := okCh_iff h
  obtain ⟨c1, c2⟩ := cp_0 C (by omega) ud ut
  obtain ⟨c3, c4⟩ := cp_1 C (by omega) vd vt
  have p1 : plL C 0 ud ut = cpL C 0 ud ut := by simp [plL, k0]
  have p2 : plH C 0 ud ut = cpH C 0 ud ut := by simp [plH, k0]
  have p3 : plL C 1 vd vt = cpL C 1 vd vt := by simp [plL, k1]
  have p4 : plH C 1 vd vt = cpH C 1 vd vt := by simp [plH, k1]
  rw [e1, e2]
  unfold lhX lhY
  rw [p1, p2, p3, p4, c1, c2, c3, c4]
  generalize fpL (P0 C) ud ut = x
  generalize fpL (P1 C) vd vt = y
  generalize fpH (P0 C) ud ut = X
  generalize fpH (P1 C) vd vt = Y
  have f1 := Fl_mul_le (a := C.lf * x) (b := 1048576) (by omega)
  have f2 := Fl_mul_le (a := C.rt * y) (b := 1048576) (by omega)
  have f3 := le_Cl_mul (a := C.lf * X) (b := 1048576) (by omega)
  have f4 := le_Cl_mul (a := C.rt * Y) (b := 1048576) (by omega)
  generalize Fl (C.lf * x) 1048576 = px at *
  generalize Fl (C.rt * y) 1048576 = py at *
  generalize Cl (C.lf * X) 1048576 = pX at *
  generalize Cl (C.rt * Y) 1048576 = pY at *
  have g1 := Fl_mul_le (a := C.rt * px + C.lf * py) (b := C.lf + C.rt) (by omega)
  have g2 := le_Cl_mul (a := C.rt * pX + C.lf * pY) (b := C.lf + C.rt) (by omega)
  generalize Fl (C.rt * px + C.lf * py) (C.lf + C.rt) = q at *
  generalize Cl (C.rt * pX + C.lf * pY) (C.lf + C.rt) = Q at *
  have m1 := Int.mul_le_mul_of_nonneg_left f1 (show 0 ≤ C.rt by omega)
  have m2 := Int.mul_le_mul_of_nonneg_left f2 (show 0 ≤ C.lf by omega)
  have m3 := Int.mul_le_mul_of_nonneg_left f3 (show 0 ≤ C.rt by omega)
  have m4 := Int.mul_le_mul_of_nonneg_left f4 (show 0 ≤ C.lf by omega)
  generalize C.lf = l at *
  generalize C.rt = r at *
  constructor
  · grind
  · grind
/-- The value of the formula is among the readings with any error. -/
theorem rd_in {C : Ch} {ud ut vd vt e : Int} (h : okCh C = true) (hc : lhC C ud ut vd vt = 0) (he : 0 ≤ e) : rdL C ud ut vd vt e ≤ fmL C ud ut vd vt ∧ fmH C ud ut vd vt ≤ rdH C ud ut vd vt e := by
  obtain ⟨o1, o2⟩ := lh_open h hc
  obtain ⟨e1, e2⟩ := fm_eq C ud ut vd vt
  obtain ⟨_, _, _, ⟨a1, a2⟩, ⟨a3, a4⟩, _, _⟩ := okCh_iff h
  have hd : 0 < C.lf * C.rt := Int.mul_pos (by omega) (by omega)
  have x1 : rdX C ud ut vd vt e ≤ fpL (P0 C) ud ut + fpL (P1 C) vd vt := by
    unfold rdX
    apply Fl_le_of hd
    have hk := Int.mul_nonneg he (show 0 ≤ 1048576 * (C.lf + C.rt) by omega)
    rw [Int.sub_mul]
    generalize lhL C ud ut vd vt = q at *
    generalize fpL (P0 C) ud ut + fpL (P1 C) vd vt = s at *
    generalize C.lf = l at *
    generalize C.rt = r at *
    grind
  have x2 : fpH (P0 C) ud ut + fpH (P1 C) vd vt ≤ rdY C ud ut vd vt e := by
    unfold rdY
    apply le_Cl_of hd
    clear x1 o1 e1 e2
    have hk := Int.mul_nonneg he (show 0 ≤ 1048576 * (C.lf + C.rt) by omega)
    generalize fpH (P0 C) ud ut + fpH (P1 C) vd vt = s at *
    rw [Int.add_mul]
    generalize lhH C ud ut vd vt = q at *
    generalize C.lf = l at *
    generalize C.rt = r at *
    grind
  simp only [rdL, rdH, hc, if_true]
  omega
/-- More error gives no narrower readings. -/
theorem rd_mono {C : Ch} {ud ut vd vt e f : Int} (h : okCh C = true) (hc : lhC C ud ut vd vt = 0) (he : e ≤ f) : rdL C ud ut vd vt f ≤ rdL C ud ut vd vt e ∧ rdH C ud ut vd vt e ≤ rdH C ud ut vd vt f := by
  obtain ⟨_, _, _, ⟨a1, a2⟩, ⟨a3, a4⟩, _, _⟩ := okCh_iff h
  have hd : 0 < C.lf * C.rt := Int.mul_pos (by omega) (by omega)
  have hk : 0 ≤ 1048576 * (C.lf + C.rt) := by omega
  have m1 := Int.mul_le_mul_of_nonneg_right (show lhL C ud ut vd vt - f ≤ lhL C ud ut vd vt - e by omega) hk
  have m2 := Int.mul_le_mul_of_nonneg_right (show lhH C ud ut vd vt + e ≤ lhH C ud ut vd vt + f by omega) hk
  have x1 := Fl_mono hd m1
  have x2 := Cl_mono hd m2
  simp only [rdL, rdH, rdX, rdY, hc, if_true]
  omega
end Go.Proofs.YtpmcgicopogbhaaGreat
