/- Chapter 23: what the statement FnCharts says, plainly. No conditions. -/
import Derived.Test.YtpmcgicopogbhaaProg
import Derived.Test.YtpmcgicopogbhaaBase
import Derived.Test.YtpmcgicopogbhaaL01
import Derived.Test.YtpmcgicopogbhaaCp
import Derived.Test.YtpmcgicopogbhaaL18
import Derived.Test.YtpmcgicopogbhaaL23
import Derived.Test.YtpmcgicopogbhaaL23b
import Derived.Test.YtpmcgicopogbhaaL03
import Derived.Test.YtpmcgicopogbhaaL04
import Derived.Test.YtpmcgicopogbhaaL23d
import Derived.Test.YtpmcgicopogbhaaL23e
import Derived.Test.YtpmcgicopogbhaaL23f
import Derived.Test.YtpmcgicopogbhaaL24
import Derived.Test.YtpmcgicopogbhaaL23g
import Derived.WalkKit
import Derived.Lib.Hide
namespace Go.Proofs.Ytpmcgicopogbhaa
open Go.RowKit
set_option linter.unusedVariables false
theorem cp_le2 {C : Ch} (h : okCh C = true) (sc dg tn : Int) : cpL C sc dg tn ≤ cpH C sc dg tn := by
  have hD := (cpD_bd h sc).1
  unfold cpL cpH
  exact Int.le_trans (Fl_mono (by omega) (by unfold mn mx; split <;> omega)) (Fl_le_Cl (by omega))
/-- A point lies in its interval. -/
theorem pt_in {C : Ch} {sc dg tn : Int} (h : cqC C sc dg tn = 0) : cqL C sc dg tn ≤ ptY C sc dg tn ∧ ptY C sc dg tn ≤ cqH C sc dg tn := by
  have hC : okCh C = true := by
    unfold cqC at h
    by_cases hk : ckC C sc (okF dg tn) = 0
    · exact (ckC_0 hk).1
    · rw [if_neg hk] at h; exact absurd h hk
  have hle := cp_le2 hC sc dg tn
  have e1 : cqL C sc dg tn = cpL C sc dg tn := by simp [cqL, h]
  have e2 : cqH C sc dg tn = cpH C sc dg tn := by simp [cqH, h]
  have e3 : ptY C sc dg tn = Fl (cpL C sc dg tn + cpH C sc dg tn) 2 := by simp [ptY, h, e1, e2]
  rw [e1, e2, e3, Fl_pos _ _ (by omega)]
  omega
theorem ok_flip {C : Ch} (h : okCh C = true) : okCh { C with lf := C.rt, rt := C.lf } = true := by
  have e : ∀ a b c d e : Bool, (a && b && c && d && e) = true → (a && b && c && e && d) = true := by decide
  unfold okCh at h ⊢
  exact e _ _ _ _ _ h
theorem fl_two {C : Ch} (h : okCh C = true) : flC C = 0 ∧ okCh (flV C) = true ∧ flC (flV C) = 0 ∧ flV (flV C) = C := by
  have h2 := ok_flip h
  have e1 : flV C = { C with lf := C.rt, rt := C.lf } := by simp [flV, h]
  rw [e1]
  refine ⟨by simp [flC, h], h2, by simp [flC, h2], by simp [flV, h2]⟩
theorem fl_bad {C : Ch} : flC C ≠ 0 ↔ okCh C = false := by
  unfold flC
  cases okCh C <;> simp
theorem fl_code (C : Ch) : flC C = 0 ∧ okCh C = true ∨ flC C = 1 ∧ okCh C = false := by
  unfold flC
  cases okCh C <;> simp
theorem Fl_compl {w a D : Int} (hD : 0 < D) (b : Int) (h : a + b = w * D) : Fl a D + Cl b D = w := by
  have e : -b = a - w * D := by omega
  unfold Cl
  rw [e, Fl_pos _ _ hD, Fl_pos _ _ hD, Int.sub_mul_ediv_right _ _ (by omega)]
  omega
theorem mid_flip {C : Ch} (h : okCh C = true) : mcL (flV C) + mcH C = C.wd ∧ mcH (flV C) + mcL C = C.wd := by
  have h2 := ok_flip h
  have e1 : flV C = { C with lf := C.rt, rt := C.lf } := by simp [flV, h]
  obtain ⟨_, _, _, ⟨a1, a2⟩, ⟨a3, a4⟩, _, _⟩ := okCh_iff h
  rw [e1]
  simp only [mcL, mcH, h, h2, if_true]
  have hs : C.rt + C.lf = C.lf + C.rt := Int.add_comm _ _
  rw [hs]
  constructor
  · exact Fl_compl (by omega) _ (by rw [← Int.mul_add, hs])
  · have := Fl_compl (a := C.wd * C.lf) (w := C.wd) (D := C.lf + C.rt) (by omega) (C.wd * C.rt) (by rw [← Int.mul_add])
    omega
theorem mod_prod {C : Ch} (h : okCh C = true) : mmN C * (C.lf + C.rt) = mmD C * C.lf * C.rt := by
  obtain ⟨_, _, _, ⟨a1, a2⟩, ⟨a3, a4⟩, _, _⟩ := okCh_iff h
  have d1 : mmG C ∣ C.lf * C.rt := Int.gcd_dvd_left _ _
  have d2 : mmG C ∣ C.lf + C.rt := Int.gcd_dvd_right _ _
  simp only [mmN, mmD, h, if_true]
  rw [Int.mul_assoc, ← Int.mul_ediv_assoc' , ← Int.mul_ediv_assoc']
  · congr 1; exact Int.mul_comm _ _
  · exact d2
  · exact d1
theorem mod_facts {C : Ch} (h : okCh C = true) : IntKind.i64.wrap (C.lf + C.rt) = C.lf + C.rt ∧ IntKind.i64.wrap (mmD C * C.lf) = mmD C * C.lf ∧ mmN C * (C.lf + C.rt) = mmD C * C.lf * C.rt := by
  obtain ⟨_, _, _, ⟨a1, a2⟩, ⟨a3, a4⟩, _, _⟩ := okCh_iff h
  have hg : 0 < mmG C := by
    have h1 := Gc_nonneg (C.lf * C.rt) (C.lf + C.rt)
    have h2 : mmG C ≠ 0 := fun h0 => by have := (Gc_eq_zero h0).2; omega
    unfold mmG at *
    omega
  have hd := ediv_bd (C.lf + C.rt) (mmG C) 40000 hg (by omega) (by omega)
  have e : mmD C = (C.lf + C.rt) / mmG C := by simp [mmD, h]
  have hm := mul_bd (mmD C) C.lf 40000 20000 (by rw [e]; omega) (by rw [e]; omega) (by omega) (by omega)
  exact ⟨wr64 (by omega) (by omega), wr64 (by omega) (by omega), mod_prod h⟩
theorem mid_wr {C : Ch} (h : okCh C = true) : IntKind.i64.wrap (mcL (flV C) + mcH C) = C.wd ∧ IntKind.i64.wrap (mcH (flV C) + mcL C) = C.wd := by
  obtain ⟨e1, e2⟩ := mid_flip h
  obtain ⟨_, _, ⟨a1, a2⟩, _⟩ := okCh_iff h
  rw [e1, e2]
  exact ⟨wr64 (by omega) (by omega), wr64 (by omega) (by omega)⟩
end Go.Proofs.Ytpmcgicopogbhaa
