/- Chapter 24: the other figure on a line. Conditions: as stated at each contract. -/
import Derived.Test.YtpmcgicopogbhaaProg
import Derived.Test.YtpmcgicopogbhaaBase
import Derived.Test.YtpmcgicopogbhaaL01
import Derived.Test.YtpmcgicopogbhaaCp
import Derived.Test.YtpmcgicopogbhaaL18
import Derived.Test.YtpmcgicopogbhaaL23
import Derived.Test.YtpmcgicopogbhaaL03
import Derived.Test.YtpmcgicopogbhaaL23d
import Derived.Test.YtpmcgicopogbhaaL23e
import Derived.Test.YtpmcgicopogbhaaL23f
import Derived.Test.YtpmcgicopogbhaaL24
import Derived.Test.YtpmcgicopogbhaaL04
import Derived.Test.YtpmcgicopogbhaaL24b
import Derived.WalkKit
import Derived.WalkSpells
import Derived.WalkLawsBesides
import Derived.Lib.Hide
import Derived.Deep.QuietTactic
import Derived.BigQuiet
import Derived.Deep.Draws
import Derived.Deep.RegionHeld3
namespace Go.Proofs.Ytpmcgicopogbhaa
open Go.RowKit
set_option linter.unusedVariables false
theorem cp_le {C : Ch} (h : okCh C = true) (sc dg tn : Int) : cpL C sc dg tn ≤ cpH C sc dg tn := by
  obtain ⟨d1, d2⟩ := cpD_bd h sc
  have hm : mn (cpA C sc dg tn * cpN C sc) (cpB C sc dg tn * cpN C sc) ≤ mx (cpA C sc dg tn * cpN C sc) (cpB C sc dg tn * cpN C sc) := by unfold mn mx; split <;> omega
  exact Int.le_trans (Fl_mono (by omega) hm) (Fl_le_Cl (by omega))
theorem pl_le {C : Ch} (h : okCh C = true) {sc dg tn : Int} (hp : plC C sc dg tn = 0) : plL C sc dg tn ≤ plH C sc dg tn := by
  have := cp_le h sc dg tn
  simp only [plL, plH, hp, if_true]; exact this
def foD (C : Ch) : Int := C.lf + C.rt
def foM (C : Ch) : Int := C.rt * P1 C
def foE (C : Ch) (e : Int) : Int := Cl (e * (C.lf + C.rt)) C.lf
def foLo (C : Ch) (ud ut xd xt e : Int) : Int := Fl ((C.lf + C.rt) * plL C 2 xd xt - C.rt * plH C 0 ud ut) C.lf - Cl (e * (C.lf + C.rt)) C.lf
def foHi (C : Ch) (ud ut xd xt e : Int) : Int := Cl ((C.lf + C.rt) * plH C 2 xd xt - C.rt * plL C 0 ud ut) C.lf + Cl (e * (C.lf + C.rt)) C.lf
def foX (C : Ch) (ud ut xd xt e : Int) : Int := mn (Fl (foLo C ud ut xd xt e * 1048576) (foM C)) (Fl (foHi C ud ut xd xt e * 1048576) (foM C))
def foY (C : Ch) (ud ut xd xt e : Int) : Int := mx (Cl (foLo C ud ut xd xt e * 1048576) (foM C)) (Cl (foHi C ud ut xd xt e * 1048576) (foM C))
def fpC (C : Ch) (ud ut xd xt : Int) : Int := if plC C 0 ud ut = 0 ∧ plC C 2 xd xt = 0 then 0 else 3
def foC (C : Ch) (ud ut xd xt e : Int) : Int := if clC C e (okF ud ut && okF xd xt) = 0 then fpC C ud ut xd xt else clC C e (okF ud ut && okF xd xt)
def foL (C : Ch) (ud ut xd xt e : Int) : Int := if foC C ud ut xd xt e = 0 then foX C ud ut xd xt e else 0
def foH (C : Ch) (ud ut xd xt e : Int) : Int := if foC C ud ut xd xt e = 0 then foY C ud ut xd xt e else 0
theorem fo_no {C : Ch} {ud ut xd xt e : Int} (h : clC C e (okF ud ut && okF xd xt) ≠ 0) : foC C ud ut xd xt e = clC C e (okF ud ut && okF xd xt) ∧ foL C ud ut xd xt e = 0 ∧ foH C ud ut xd xt e = 0 := by
  have : foC C ud ut xd xt e = clC C e (okF ud ut && okF xd xt) := by simp [foC, h]
  exact ⟨this, by simp [foL, this, h], by simp [foH, this, h]⟩
theorem fo_3 {C : Ch} {ud ut xd xt e : Int} (h : clC C e (okF ud ut && okF xd xt) = 0) (h3 : plC C 0 ud ut ≠ 0 ∨ plC C 2 xd xt ≠ 0) : foC C ud ut xd xt e = 3 ∧ foL C ud ut xd xt e = 0 ∧ foH C ud ut xd xt e = 0 := by
  have h4 : fpC C ud ut xd xt = 3 := by
    unfold fpC
    rw [if_neg]
    rintro ⟨a, b⟩
    rcases h3 with h3 | h3
    · exact h3 a
    · exact h3 b
  have : foC C ud ut xd xt e = 3 := by simp [foC, h, h4]
  exact ⟨this, by simp [foL, this], by simp [foH, this]⟩
theorem fo_0 {C : Ch} {ud ut xd xt e : Int} (h : clC C e (okF ud ut && okF xd xt) = 0) (h1 : plC C 0 ud ut = 0) (h2 : plC C 2 xd xt = 0) : foC C ud ut xd xt e = 0 ∧ foL C ud ut xd xt e = foX C ud ut xd xt e ∧ foH C ud ut xd xt e = foY C ud ut xd xt e := by
  have : foC C ud ut xd xt e = 0 := by simp [foC, h, fpC, h1, h2]
  exact ⟨this, by simp [foL, this], by simp [foH, this]⟩
theorem Fl_anti {a b c : Int} (hc : c < 0) (h : a ≤ b) : Fl b c ≤ Fl a c := by
  rw [← Fl_neg b, ← Fl_neg a]; exact Fl_mono (by omega) (by omega)
theorem Cl_anti {a b c : Int} (hc : c < 0) (h : a ≤ b) : Cl b c ≤ Cl a c := by
  have := Fl_anti hc (show -b ≤ -a by omega)
  unfold Cl; omega
theorem fo_bd {C : Ch} {ud ut xd xt e : Int} (h : okCh C = true) (h1 : plC C 0 ud ut = 0) (h2 : plC C 2 xd xt = 0) (e1 : 0 ≤ e) (e2 : e ≤ 200) :
    (0 ≤ e * (C.lf + C.rt) ∧ e * (C.lf + C.rt) ≤ 8000000) ∧ (-4000000000 ≤ (C.lf + C.rt) * plL C 2 xd xt ∧ (C.lf + C.rt) * plL C 2 xd xt ≤ 4000000000) ∧ (-4000000000 ≤ (C.lf + C.rt) * plH C 2 xd xt ∧ (C.lf + C.rt) * plH C 2 xd xt ≤ 4000000000) ∧
    (-2000000000 ≤ C.rt * plL C 0 ud ut ∧ C.rt * plL C 0 ud ut ≤ 2000000000) ∧ (-2000000000 ≤ C.rt * plH C 0 ud ut ∧ C.rt * plH C 0 ud ut ≤ 2000000000) ∧
    (0 ≤ Cl (e * (C.lf + C.rt)) C.lf ∧ Cl (e * (C.lf + C.rt)) C.lf ≤ 8000000) ∧
    (-6000000000 ≤ Fl ((C.lf + C.rt) * plL C 2 xd xt - C.rt * plH C 0 ud ut) C.lf ∧ Fl ((C.lf + C.rt) * plL C 2 xd xt - C.rt * plH C 0 ud ut) C.lf ≤ 6000000000) ∧
    (-6000000000 ≤ Cl ((C.lf + C.rt) * plH C 2 xd xt - C.rt * plL C 0 ud ut) C.lf ∧ Cl ((C.lf + C.rt) * plH C 2 xd xt - C.rt * plL C 0 ud ut) C.lf ≤ 6000000000) ∧
    Fl ((C.lf + C.rt) * plL C 2 xd xt - C.rt * plH C 0 ud ut) C.lf ≤ Cl ((C.lf + C.rt) * plH C 2 xd xt - C.rt * plL C 0 ud ut) C.lf ∧ (-120000 ≤ C.rt * P1 C ∧ C.rt * P1 C ≤ 120000 ∧ C.rt * P1 C ≠ 0) := by
  obtain ⟨_, _, _, ⟨a1, a2⟩, ⟨a3, a4⟩, _, ⟨q1, q2, q3⟩⟩ := okCh_iff h
  obtain ⟨⟨b1, b2⟩, b3, b4⟩ := pl_bd h1
  obtain ⟨⟨c1, c2⟩, c3, c4⟩ := pl_bd h2
  have k1 := pl_le h h1
  have k2 := pl_le h h2
  have m1 := mul_bd e (C.lf + C.rt) 200 40000 (by omega) e2 (by omega) (by omega)
  have m0 := Int.mul_nonneg e1 (show 0 ≤ C.lf + C.rt by omega)
  have m2 := mul_bd (C.lf + C.rt) (plL C 2 xd xt) 40000 100000 (by omega) (by omega) c1 c2
  have m3 := mul_bd (C.lf + C.rt) (plH C 2 xd xt) 40000 100000 (by omega) (by omega) c3 c4
  have m4 := mul_bd C.rt (plL C 0 ud ut) 20000 100000 (by omega) a4 b1 b2
  have m5 := mul_bd C.rt (plH C 0 ud ut) 20000 100000 (by omega) a4 b3 b4
  have m6 := mul_bd C.rt (P1 C) 20000 6 (by omega) a4 q2 q3
  have m7 : C.rt * P1 C ≠ 0 := Int.mul_ne_zero (by omega) q1
  have o1 := Int.mul_le_mul_of_nonneg_left k2 (show 0 ≤ C.lf + C.rt by omega)
  have o2 := Int.mul_le_mul_of_nonneg_left k1 (show 0 ≤ C.rt by omega)
  have f1 := Cl_bd (e * (C.lf + C.rt)) C.lf 8000000 (by omega) (by omega)
  have f0 := Cl_mono (show 0 < C.lf by omega) m0
  have f00 : Cl 0 C.lf = 0 := by unfold Cl; rw [Fl_pos _ _ (by omega)]; simp
  have f2 := Fl_bd ((C.lf + C.rt) * plL C 2 xd xt - C.rt * plH C 0 ud ut) C.lf 6000000000 (by omega) (by omega)
  have f3 := Cl_bd ((C.lf + C.rt) * plH C 2 xd xt - C.rt * plL C 0 ud ut) C.lf 6000000000 (by omega) (by omega)
  have f4 := Int.le_trans (Fl_mono (show 0 < C.lf by omega) (show (C.lf + C.rt) * plL C 2 xd xt - C.rt * plH C 0 ud ut ≤ (C.lf + C.rt) * plH C 2 xd xt - C.rt * plL C 0 ud ut by omega)) (Fl_le_Cl (show 0 < C.lf by omega))
  exact ⟨⟨m0, by omega⟩, ⟨by omega, by omega⟩, ⟨by omega, by omega⟩, ⟨by omega, by omega⟩, ⟨by omega, by omega⟩, ⟨by omega, f1.2⟩, f2, f3, f4, ⟨by omega, by omega, m7⟩⟩
end Go.Proofs.Ytpmcgicopogbhaa
