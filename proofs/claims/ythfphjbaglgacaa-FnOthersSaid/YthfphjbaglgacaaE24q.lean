/- Chapter 24: what the statement FnOthers says, plainly. No conditions. -/
import Derived.Test.YthfphjbaglgacaaProg
import Derived.Test.YthfphjbaglgacaaBase
import Derived.Test.YthfphjbaglgacaaL01
import Derived.Test.YthfphjbaglgacaaCp
import Derived.Test.YthfphjbaglgacaaL18
import Derived.Test.YthfphjbaglgacaaL23
import Derived.Test.YthfphjbaglgacaaL03
import Derived.Test.YthfphjbaglgacaaL04
import Derived.Test.YthfphjbaglgacaaL23d
import Derived.Test.YthfphjbaglgacaaL23e
import Derived.Test.YthfphjbaglgacaaL23f
import Derived.Test.YthfphjbaglgacaaL24
import Derived.Test.YthfphjbaglgacaaL24b
import Derived.Test.YthfphjbaglgacaaL24o
import Derived.Test.YthfphjbaglgacaaM24
import Derived.WalkKit
import Derived.Lib.Hide
namespace Go.Proofs.Ythfphjbaglgacaa
open Go.RowKit
set_option linter.unusedVariables false
theorem le_Fl_neg {a b : Int} (hb : b < 0) : a ≤ Fl a b * b := by
  have := Fl_mul_le (a := -a) (b := -b) (by omega)
  rw [Fl_neg, Int.mul_neg] at this
  omega
theorem Cl_neg_le {a b : Int} (hb : b < 0) : Cl a b * b ≤ a := by
  have := le_Fl_neg (a := -a) hb
  unfold Cl
  rw [Int.neg_mul]; omega
theorem fo_parts {C : Ch} {ud ut xd xt e : Int} (h : foC C ud ut xd xt e = 0) : clC C e (okF ud ut && okF xd xt) = 0 ∧ plC C 0 ud ut = 0 ∧ plC C 2 xd xt = 0 := by
  unfold foC at h
  by_cases hq : clC C e (okF ud ut && okF xd xt) = 0
  · rw [if_pos hq] at h
    unfold fpC at h
    split at h
    · rename_i hp; exact ⟨hq, hp.1, hp.2⟩
    · cases h
  · rw [if_neg hq] at h; exact absurd h hq
/-- The two ends, opened: in units of the right modulus. -/
theorem fo_open {C : Ch} {ud ut xd xt e : Int} (h : okCh C = true) (hx : okF xd xt = true) (h1 : plC C 0 ud ut = 0) (h2 : plC C 2 xd xt = 0) (he : 0 ≤ e) :
    foLo C ud ut xd xt e * 1048576 ≤ C.rt * (fgLo xd xt - fgHi C.dg C.tn - fpH (P0 C) ud ut) ∧ C.rt * (fgHi xd xt - fgLo C.dg C.tn - fpL (P0 C) ud ut) ≤ foHi C ud ut xd xt e * 1048576 := by
  obtain ⟨_, _, _, ⟨a1, a2⟩, ⟨a3, a4⟩, _, _⟩ := okCh_iff h
  have hd : 0 < C.lf * C.rt := Int.mul_pos (by omega) (by omega)
  obtain ⟨c1, c2⟩ := cp_0 C (by omega) ud ut
  have p1 : plL C 0 ud ut = cpL C 0 ud ut := by simp [plL, h1]
  have p2 : plH C 0 ud ut = cpH C 0 ud ut := by simp [plH, h1]
  have p3 : plL C 2 xd xt = cpL C 2 xd xt := by simp [plL, h2]
  have p4 : plH C 2 xd xt = cpH C 2 xd xt := by simp [plH, h2]
  have k1 := fg_le hx
  have k2 := fg_le (okCh_fac h)
  have hAB : fgLo xd xt - fgHi C.dg C.tn ≤ fgHi xd xt - fgLo C.dg C.tn := by omega
  have q3 : cpL C 2 xd xt = Fl ((fgLo xd xt - fgHi C.dg C.tn) * (C.lf * C.rt)) ((C.lf + C.rt) * 1048576) := by
    simp only [cpL, cpN, cpD, cpA, cpB, if_true, show ((2 : Int) = 0) = False by simp, show ((2 : Int) = 1) = False by simp, if_false]
    rw [mn_le (Int.mul_le_mul_of_nonneg_right hAB (by omega))]
  have q4 : cpH C 2 xd xt = Cl ((fgHi xd xt - fgLo C.dg C.tn) * (C.lf * C.rt)) ((C.lf + C.rt) * 1048576) := by
    simp only [cpH, cpN, cpD, cpA, cpB, if_true, show ((2 : Int) = 0) = False by simp, show ((2 : Int) = 1) = False by simp, if_false]
    rw [mx_le (Int.mul_le_mul_of_nonneg_right hAB (by omega))]
  have hE : 0 ≤ Cl (e * (C.lf + C.rt)) C.lf := le_Cl_of (by omega) (by rw [Int.zero_mul]; exact Int.mul_nonneg he (by omega))
  unfold foLo foHi
  rw [p1, p2, p3, p4, c1, c2, q3, q4]
  generalize fgLo xd xt - fgHi C.dg C.tn = a at *
  generalize fgHi xd xt - fgLo C.dg C.tn = b at *
  generalize fpL (P0 C) ud ut = x at *
  generalize fpH (P0 C) ud ut = X at *
  generalize Cl (e * (C.lf + C.rt)) C.lf = E at *
  have f1 := Fl_mul_le (a := C.lf * x) (b := 1048576) (by omega)
  have f3 := le_Cl_mul (a := C.lf * X) (b := 1048576) (by omega)
  have f5 := Fl_mul_le (a := a * (C.lf * C.rt)) (b := (C.lf + C.rt) * 1048576) (by omega)
  have f6 := le_Cl_mul (a := b * (C.lf * C.rt)) (b := (C.lf + C.rt) * 1048576) (by omega)
  generalize Fl (C.lf * x) 1048576 = px at *
  generalize Cl (C.lf * X) 1048576 = pX at *
  generalize Fl (a * (C.lf * C.rt)) ((C.lf + C.rt) * 1048576) = pa at *
  generalize Cl (b * (C.lf * C.rt)) ((C.lf + C.rt) * 1048576) = pb at *
  have g1 := Fl_mul_le (a := (C.lf + C.rt) * pa - C.rt * pX) (b := C.lf) (by omega)
  have g2 := le_Cl_mul (a := (C.lf + C.rt) * pb - C.rt * px) (b := C.lf) (by omega)
  generalize Fl ((C.lf + C.rt) * pa - C.rt * pX) C.lf = s at *
  generalize Cl ((C.lf + C.rt) * pb - C.rt * px) C.lf = S at *
  generalize C.lf = l at *
  generalize C.rt = r at *
  have m1 := Int.mul_le_mul_of_nonneg_left f1 (show 0 ≤ r by omega)
  have m3 := Int.mul_le_mul_of_nonneg_left f3 (show 0 ≤ r by omega)
  have e1 := Int.mul_nonneg hE (show 0 ≤ l by omega)
  constructor
  · refine Int.le_of_mul_le_mul_right (a := l) ?_ (by omega)
    grind
  · refine Int.le_of_mul_le_mul_right (a := l) ?_ (by omega)
    grind
theorem fo_size {C : Ch} {ud ut xd xt e : Int} (h : okCh C = true) (h1 : plC C 0 ud ut = 0) (h2 : plC C 2 xd xt = 0) (e1 : 0 ≤ e) (e2 : e ≤ 200) :
    -(100300 * C.lf + 200300 * C.rt) ≤ foLo C ud ut xd xt e * C.lf ∧ foHi C ud ut xd xt e * C.lf ≤ 100300 * C.lf + 200300 * C.rt ∧ foLo C ud ut xd xt e ≤ foHi C ud ut xd xt e := by
  obtain ⟨_, _, _, ⟨a1, a2⟩, ⟨a3, a4⟩, _, _⟩ := okCh_iff h
  obtain ⟨⟨b1, b2⟩, b3, b4⟩ := pl_bd h1
  obtain ⟨⟨c1, c2⟩, c3, c4⟩ := pl_bd h2
  obtain ⟨_, _, _, _, _, ⟨w1, w2⟩, _, _, w3, _⟩ := fo_bd h h1 h2 e1 e2
  have hE : (Cl (e * (C.lf + C.rt)) C.lf - 1) * C.lf ≤ e * (C.lf + C.rt) := by
    have := Fl_mul_le (a := -(e * (C.lf + C.rt))) (b := C.lf) (by omega)
    have h3 : -(e * (C.lf + C.rt)) < (Fl (-(e * (C.lf + C.rt))) C.lf + 1) * C.lf := by
      rw [Fl_pos _ _ (by omega)]; exact Int.lt_ediv_add_one_mul_self _ (by omega)
    unfold Cl
    grind
  have hL : (C.lf + C.rt) * plL C 2 xd xt - C.rt * plH C 0 ud ut < (Fl ((C.lf + C.rt) * plL C 2 xd xt - C.rt * plH C 0 ud ut) C.lf + 1) * C.lf := by
    rw [Fl_pos _ _ (by omega)]; exact Int.lt_ediv_add_one_mul_self _ (by omega)
  have hH : -((C.lf + C.rt) * plH C 2 xd xt - C.rt * plL C 0 ud ut) < (Fl (-((C.lf + C.rt) * plH C 2 xd xt - C.rt * plL C 0 ud ut)) C.lf + 1) * C.lf := by
    rw [Fl_pos _ _ (by omega)]; exact Int.lt_ediv_add_one_mul_self _ (by omega)
  have n1 := Int.mul_le_mul_of_nonneg_left c1 (show 0 ≤ C.lf + C.rt by omega)
  have n2 := Int.mul_le_mul_of_nonneg_left b4 (show 0 ≤ C.rt by omega)
  have n3 := Int.mul_le_mul_of_nonneg_left c4 (show 0 ≤ C.lf + C.rt by omega)
  have n4 := Int.mul_le_mul_of_nonneg_left b1 (show 0 ≤ C.rt by omega)
  have n5 := Int.mul_le_mul_of_nonneg_right e2 (show 0 ≤ C.lf + C.rt by omega)
  refine ⟨?_, ?_, ?_⟩
  · unfold foLo
    generalize Fl ((C.lf + C.rt) * plL C 2 xd xt - C.rt * plH C 0 ud ut) C.lf = s at *
    generalize Cl (e * (C.lf + C.rt)) C.lf = E at *
    generalize C.lf = l at *
    generalize C.rt = r at *
    grind
  · unfold foHi Cl
    generalize Fl (-((C.lf + C.rt) * plH C 2 xd xt - C.rt * plL C 0 ud ut)) C.lf = s at *
    unfold Cl at hE
    generalize Fl (-(e * (C.lf + C.rt))) C.lf = E at *
    generalize C.lf = l at *
    generalize C.rt = r at *
    grind
  · unfold foLo foHi; omega
/-- The ends of what is found: not too great. -/
theorem fo_bdd {C : Ch} {ud ut xd xt e : Int} (h : okCh C = true) (h1 : plC C 0 ud ut = 0) (h2 : plC C 2 xd xt = 0) (e1 : 0 ≤ e) (e2 : e ≤ 200) :
    -10000000000 ≤ foX C ud ut xd xt e ∧ foY C ud ut xd xt e ≤ 10000000000 ∧ foX C ud ut xd xt e ≤ foY C ud ut xd xt e := by
  obtain ⟨_, _, _, ⟨a1, a2⟩, ⟨a3, a4⟩, _, ⟨q1, q2, q3⟩⟩ := okCh_iff h
  obtain ⟨s1, s2, s3⟩ := fo_size h h1 h2 e1 e2
  have hrl : 100 * C.lf ≤ C.rt * C.lf := Int.mul_le_mul_of_nonneg_right (by omega) (by omega)
  have hlr : 100 * C.rt ≤ C.lf * C.rt := Int.mul_le_mul_of_nonneg_right (by omega) (by omega)
  have hA : -(9000000000 * C.rt) ≤ foLo C ud ut xd xt e * 1048576 := by
    refine Int.le_of_mul_le_mul_right (a := C.lf) ?_ (by omega)
    generalize foLo C ud ut xd xt e = s at *
    generalize C.lf = l at *
    generalize C.rt = r at *
    grind
  have hB : foHi C ud ut xd xt e * 1048576 ≤ 9000000000 * C.rt := by
    refine Int.le_of_mul_le_mul_right (a := C.lf) ?_ (by omega)
    generalize foHi C ud ut xd xt e = s at *
    generalize C.lf = l at *
    generalize C.rt = r at *
    grind
  have hAB : foLo C ud ut xd xt e * 1048576 ≤ foHi C ud ut xd xt e * 1048576 := by omega
  unfold foX foY foM
  generalize foLo C ud ut xd xt e * 1048576 = a at *
  generalize foHi C ud ut xd xt e * 1048576 = b at *
  rcases Int.lt_or_le 0 (P1 C) with hp | hp
  · have hM : 0 < C.rt * P1 C := Int.mul_pos (by omega) hp
    have hMr : C.rt ≤ C.rt * P1 C := by have := Int.mul_le_mul_of_nonneg_left (show 1 ≤ P1 C by omega) (show 0 ≤ C.rt by omega); omega
    have x1 := Fl_mono hM hAB
    have x2 := Cl_mono hM hAB
    have x3 := Fl_le_Cl (a := a) hM
    have x4 : -9000000000 ≤ Fl a (C.rt * P1 C) := le_Fl_of hM (by omega)
    have x5 : Cl b (C.rt * P1 C) ≤ 9000000000 := Cl_le_of hM (by omega)
    rw [mn_le x1, mx_le x2]
    omega
  · have hp' : P1 C < 0 := by omega
    have hM : C.rt * P1 C < 0 := Int.mul_neg_of_pos_of_neg (by omega) hp'
    have hMr : C.rt * P1 C ≤ -C.rt := by have := Int.mul_le_mul_of_nonneg_left (show P1 C ≤ -1 by omega) (show 0 ≤ C.rt by omega); omega
    have x1 := Fl_anti hM hAB
    have x2 := Cl_anti hM hAB
    have x3 : Fl b (C.rt * P1 C) ≤ Cl b (C.rt * P1 C) := by
      have := Fl_le_Cl (a := -b) (c := -(C.rt * P1 C)) (by omega)
      rw [Fl_neg] at this
      have e : Cl (-b) (-(C.rt * P1 C)) = Cl b (C.rt * P1 C) := by unfold Cl; rw [Fl_neg]
      rw [e] at this; exact this
    have x4 : -9000000000 ≤ Fl b (C.rt * P1 C) := by rw [← Fl_neg]; exact le_Fl_of (by omega) (by omega)
    have x5 : Cl a (C.rt * P1 C) ≤ 9000000000 := by
      have e : Cl (-a) (-(C.rt * P1 C)) = Cl a (C.rt * P1 C) := by unfold Cl; rw [Fl_neg]
      rw [← e]; exact Cl_le_of (by omega) (by omega)
    rw [mn_ge x1, mx_ge x2]
    omega
/-- The exponent of the other letter times what is found encloses what the formula says. -/
theorem fo_in {C : Ch} {ud ut xd xt e : Int} (h : okCh C = true) (hx : okF xd xt = true) (h1 : plC C 0 ud ut = 0) (h2 : plC C 2 xd xt = 0) (e1 : 0 ≤ e) (e2 : e ≤ 200) :
    mn (foX C ud ut xd xt e * P1 C) (foY C ud ut xd xt e * P1 C) ≤ fgLo xd xt - fgHi C.dg C.tn - fpH (P0 C) ud ut ∧ fgHi xd xt - fgLo C.dg C.tn - fpL (P0 C) ud ut ≤ mx (foX C ud ut xd xt e * P1 C) (foY C ud ut xd xt e * P1 C) := by
  obtain ⟨_, _, _, ⟨a1, a2⟩, ⟨a3, a4⟩, _, ⟨q1, q2, q3⟩⟩ := okCh_iff h
  obtain ⟨o1, o2⟩ := fo_open h hx h1 h2 e1
  obtain ⟨_, _, s3⟩ := fo_size h h1 h2 e1 e2
  have hAB : foLo C ud ut xd xt e * 1048576 ≤ foHi C ud ut xd xt e * 1048576 := by omega
  unfold foX foY foM
  generalize foLo C ud ut xd xt e * 1048576 = a at *
  generalize foHi C ud ut xd xt e * 1048576 = b at *
  generalize fgLo xd xt - fgHi C.dg C.tn - fpH (P0 C) ud ut = v at *
  generalize fgHi xd xt - fgLo C.dg C.tn - fpL (P0 C) ud ut = V at *
  have can : ∀ x y : Int, x * (C.rt * P1 C) ≤ C.rt * y → x * P1 C ≤ y := fun x y hh => by
    refine Int.le_of_mul_le_mul_left (a := C.rt) ?_ (by omega)
    grind
  have can2 : ∀ x y : Int, C.rt * y ≤ x * (C.rt * P1 C) → y ≤ x * P1 C := fun x y hh => by
    refine Int.le_of_mul_le_mul_left (a := C.rt) ?_ (by omega)
    grind
  have mnl : ∀ x y : Int, mn x y ≤ x ∧ mn x y ≤ y := fun x y => by unfold mn; split <;> omega
  have mxl : ∀ x y : Int, x ≤ mx x y ∧ y ≤ mx x y := fun x y => by unfold mx; split <;> omega
  rcases Int.lt_or_le 0 (P1 C) with hp | hp
  · have hM : 0 < C.rt * P1 C := Int.mul_pos (by omega) hp
    rw [mn_le (Fl_mono hM hAB), mx_le (Cl_mono hM hAB)]
    have x1 := can _ _ (Int.le_trans (Fl_mul_le (a := a) hM) o1)
    have x2 := can2 _ _ (Int.le_trans o2 (le_Cl_mul (a := b) hM))
    exact ⟨Int.le_trans (mnl _ _).1 x1, Int.le_trans x2 (mxl _ _).2⟩
  · have hp' : P1 C < 0 := by omega
    have hM : C.rt * P1 C < 0 := Int.mul_neg_of_pos_of_neg (by omega) hp'
    rw [mn_ge (Fl_anti hM hAB), mx_ge (Cl_anti hM hAB)]
    have x1 := can _ _ (Int.le_trans (Cl_neg_le (a := a) hM) o1)
    have x2 := can2 _ _ (Int.le_trans o2 (le_Fl_neg (a := b) hM))
    exact ⟨Int.le_trans (mnl _ _).2 x1, Int.le_trans x2 (mxl _ _).1⟩
/-- More error gives no narrower bounds. -/
theorem fo_mono {C : Ch} {ud ut xd xt e : Int} (h : okCh C = true) (h1 : plC C 0 ud ut = 0) (h2 : plC C 2 xd xt = 0) (e1 : 0 ≤ e) (e2 : e ≤ 200) :
    foX C ud ut xd xt e ≤ foX C ud ut xd xt 0 ∧ foY C ud ut xd xt 0 ≤ foY C ud ut xd xt e := by
  obtain ⟨_, _, _, ⟨a1, a2⟩, ⟨a3, a4⟩, _, ⟨q1, q2, q3⟩⟩ := okCh_iff h
  have hE : Cl (0 * (C.lf + C.rt)) C.lf ≤ Cl (e * (C.lf + C.rt)) C.lf := Cl_mono (by omega) (by rw [Int.zero_mul]; exact Int.mul_nonneg e1 (by omega))
  obtain ⟨_, _, s3⟩ := fo_size h h1 h2 (show (0 : Int) ≤ 0 by omega) (by omega)
  have hA : foLo C ud ut xd xt e * 1048576 ≤ foLo C ud ut xd xt 0 * 1048576 := by unfold foLo; omega
  have hB : foHi C ud ut xd xt 0 * 1048576 ≤ foHi C ud ut xd xt e * 1048576 := by unfold foHi; omega
  have hAB : foLo C ud ut xd xt 0 * 1048576 ≤ foHi C ud ut xd xt 0 * 1048576 := by omega
  unfold foX foY foM
  generalize foLo C ud ut xd xt e * 1048576 = a at *
  generalize foHi C ud ut xd xt e * 1048576 = b at *
  generalize foLo C ud ut xd xt 0 * 1048576 = a0 at *
  generalize foHi C ud ut xd xt 0 * 1048576 = b0 at *
  rcases Int.lt_or_le 0 (P1 C) with hp | hp
  · have hM : 0 < C.rt * P1 C := Int.mul_pos (by omega) hp
    rw [mn_le (Fl_mono hM hAB), mx_le (Cl_mono hM hAB), mn_le (Fl_mono hM (show a ≤ b by omega)), mx_le (Cl_mono hM (show a ≤ b by omega))]
    exact ⟨Fl_mono hM hA, Cl_mono hM hB⟩
  · have hM : C.rt * P1 C < 0 := Int.mul_neg_of_pos_of_neg (by omega) (by omega)
    rw [mn_ge (Fl_anti hM hAB), mx_ge (Cl_anti hM hAB), mn_ge (Fl_anti hM (show a ≤ b by omega)), mx_ge (Cl_anti hM (show a ≤ b by omega))]
    exact ⟨Fl_anti hM hB, Cl_anti hM hA⟩
theorem fo_at {C : Ch} {ud ut xd xt e : Int} (h : foC C ud ut xd xt e = 0) : okCh C = true ∧ okF ud ut = true ∧ okF xd xt = true ∧ (plC C 0 ud ut = 0 ∧ plC C 2 xd xt = 0) ∧ (0 ≤ e ∧ e ≤ 200) ∧ foC C ud ut xd xt 0 = 0 ∧ (foL C ud ut xd xt e = foX C ud ut xd xt e ∧ foH C ud ut xd xt e = foY C ud ut xd xt e) ∧ (foL C ud ut xd xt 0 = foX C ud ut xd xt 0 ∧ foH C ud ut xd xt 0 = foY C ud ut xd xt 0) := by
  obtain ⟨hc, h1, h2⟩ := fo_parts h
  obtain ⟨k1, k2, k3⟩ := clC_0 hc
  simp only [Bool.and_eq_true] at k2
  have k4 := inB_iff.1 k3
  have hc0 : clC C 0 (okF ud ut && okF xd xt) = 0 := by
    have : inB 0 0 200 = true := rfl
    simp [clC, k1, k2.1, k2.2, this]
  obtain ⟨f1, f2, f3⟩ := fo_0 hc h1 h2
  obtain ⟨g1, g2, g3⟩ := fo_0 hc0 h1 h2
  exact ⟨k1, k2.1, k2.2, ⟨h1, h2⟩, k4, g1, ⟨f2, f3⟩, g2, g3⟩
/-- All that the statement asks. -/
structure OtF (C : Ch) (ud ut xd xt e : Int) : Prop where
  ok : okCh C = true
  u : okF ud ut = true
  x : okF xd xt = true
  c0 : foC C ud ut xd xt 0 = 0
  lo0 : foL C ud ut xd xt e ≤ foL C ud ut xd xt 0
  hi0 : foH C ud ut xd xt 0 ≤ foH C ud ut xd xt e
  le : foL C ud ut xd xt e ≤ foH C ud ut xd xt e
  bl : -10000000000 ≤ foL C ud ut xd xt e
  bh : foH C ud ut xd xt e ≤ 10000000000
  inl : mn (foL C ud ut xd xt e * P1 C) (foH C ud ut xd xt e * P1 C) ≤ fgLo xd xt - fgHi C.dg C.tn - fpH (P0 C) ud ut
  inh : fgHi xd xt - fgLo C.dg C.tn - fpL (P0 C) ud ut ≤ mx (foL C ud ut xd xt e * P1 C) (foH C ud ut xd xt e * P1 C)
theorem ot_facts {C : Ch} {ud ut xd xt e : Int} (h : foC C ud ut xd xt e = 0) : OtF C ud ut xd xt e := by
  obtain ⟨k1, k2, k3, ⟨h1, h2⟩, ⟨e1, e2⟩, c0, ⟨f2, f3⟩, g2, g3⟩ := fo_at h
  obtain ⟨b1, b2, b3⟩ := fo_bdd k1 h1 h2 e1 e2
  obtain ⟨m1, m2⟩ := fo_mono k1 h1 h2 e1 e2
  obtain ⟨i1, i2⟩ := fo_in k1 k3 h1 h2 e1 e2
  exact ⟨k1, k2, k3, c0, by rw [f2, g2]; exact m1, by rw [f3, g3]; exact m2, by rw [f2, f3]; exact b3, by rw [f2]; exact b1, by rw [f3]; exact b2, by rw [f2, f3]; exact i1, by rw [f2, f3]; exact i2⟩
end Go.Proofs.Ythfphjbaglgacaa
