/- Chapter 23: points of a scale and the height between two figures, with the codes. Conditions: as stated at each contract. -/
import Derived.Test.YtpmcgicopogbhaaGreatProg
import Derived.Test.YtpmcgicopogbhaaGreatBase
import Derived.Test.YtpmcgicopogbhaaGreatZy
import Derived.Test.YtpmcgicopogbhaaGreatRw
import Derived.Test.YtpmcgicopogbhaaGreatL01
import Derived.Test.YtpmcgicopogbhaaGreatCp
import Derived.Test.YtpmcgicopogbhaaGreatL18
import Derived.Test.YtpmcgicopogbhaaGreatL23
import Derived.Test.YtpmcgicopogbhaaGreatL03
import Derived.Test.YtpmcgicopogbhaaGreatL23d
import Derived.Test.YtpmcgicopogbhaaGreatL23e
import Derived.Test.YtpmcgicopogbhaaGreatL24
import Derived.Test.YtpmcgicopogbhaaGreatL24b
import Derived.Test.YtpmcgicopogbhaaGreatL23g
import Derived.Test.YtpmcgicopogbhaaGreatL23h
import Derived.WalkKit
import Derived.WalkSpells
import Derived.WalkLawsBesides
import Derived.Lib.Hide
import Derived.Deep.QuietTactic
import Derived.BigQuiet
import Derived.Deep.Draws
import Derived.Deep.RegionHeld3
namespace Go.Proofs.YtpmcgicopogbhaaGreat
set_option linter.unusedSimpArgs false
open Go.RowKit
set_option linter.unusedVariables false
def chK (C : Ch) (sc ud ut vd vt : Int) : Int := ckC C sc (okF ud ut && okF vd vt)
def chC (C : Ch) (sc ud ut vd vt : Int) : Int := if chK C sc ud ut vd vt = 0 then pcC C sc [(ud, ut), (vd, vt)] else chK C sc ud ut vd vt
def chV (C : Ch) (sc ud ut vd vt : Int) : Int := if chC C sc ud ut vd vt = 0 then Ab (ppY C sc ud ut - ppY C sc vd vt) else 0
theorem Ab_sub (a b : Int) : Ab (a - b) = Ab (b - a) := by unfold Ab; split <;> split <;> omega
theorem pc_two {C : Ch} {sc ud ut vd vt : Int} (h : pcC C sc [(ud, ut), (vd, vt)] = 0) : pcV C sc [(ud, ut), (vd, vt)] = [(ppX C sc ud ut, ppY C sc ud ut), (ppX C sc vd vt, ppY C sc vd vt)] ∧ plC C sc ud ut = 0 ∧ plC C sc vd vt = 0 := by
  unfold pcC at h
  split at h
  · rename_i ha
    refine ⟨by simp [pcV, ha, ptOf], ?_⟩
    simpa [ptOk] using ha
  · cases h
theorem pp_bd {C : Ch} {sc dg tn : Int} (h : plC C sc dg tn = 0) : -1000000 ≤ ppY C sc dg tn ∧ ppY C sc dg tn ≤ 1000000 := by
  obtain ⟨⟨b1, b2⟩, b3, b4⟩ := pl_bd h
  simp only [ppY, h, if_true]
  exact Fl_bd _ _ _ (by omega) (by omega)
theorem Prs.two {w : World} {A : Option Addr} {a b c d : Int} (h : Prs w A [(a, b), (c, d)]) : ∃ g o, A = some ⟨g, o, none⟩ ∧ g < w.heap.size ∧ w.cell? ⟨g, o, none⟩ = some (.int .i64 a) ∧ w.cell? ⟨g, o + 1, none⟩ = some (.int .i64 b) ∧ w.cell? ⟨g, o + 2, none⟩ = some (.int .i64 c) ∧ w.cell? ⟨g, o + 2 + 1, none⟩ = some (.int .i64 d) := by
  obtain ⟨g, o, e, hg, hc⟩ := h (by simp)
  exact ⟨g, o, e, hg, (hc 0 (by simp)).1, (hc 0 (by simp)).2, (hc 1 (by simp)).1, (hc 1 (by simp)).2⟩
theorem spq_two (C : Ch) (sc ud ut vd vt : Int) : spqC C sc [(ud, ut), (vd, vt)] = chC C sc ud ut vd vt := by
  by_cases hh : ckC C sc (okF ud ut && okF vd vt) = 0 <;> simp [spqC, chC, chK, okFs_two, hh]
set_option maxHeartbeats 1000000 in
theorem ChartHeight_S (C : Ch) (A : Option Addr) (c : Nat) (sc ud ut vd vt : Int) (hz : C.zs.length ≤ 1048576) (hm : C.nm.size ≤ 1048576) (w : World) (hA : Ints w A C.zs) :
    Calls Tryz.prog 90 #[.agg #[.int .i64 C.dg, .int .i64 C.tn, .string C.nm, .slice A C.zs.length c, .int .i64 C.wd, .int .i64 C.lf, .int .i64 C.rt], .int .i64 sc, .agg #[.int .i64 ud, .int .i64 ut], .agg #[.int .i64 vd, .int .i64 vt]] w fun r w' => r = .returned (.tuple #[.int .i64 (chV C sc ud ut vd vt), .int .i64 (chC C sc ud ut vd vt)]) ∧ Below w.heap.size w w' := by
  have hP := Prs.mk2 (((w.alloc (.cells #[.int .i64 C.dg, .int .i64 C.tn, .string C.nm, .slice A C.zs.length c, .int .i64 C.wd, .int .i64 C.lf, .int .i64 C.rt] 30)).alloc (.cells #[.int .i64 ud, .int .i64 ut] 25)).alloc (.cells #[.int .i64 vd, .int .i64 vt] 25)) 25 ud ut vd vt
  simp only [World.size_alloc] at hP
  have HA := Lib.hid hA
  have HE := Lib.hid (spq_two C sc ud ut vd vt)
  clear hA
  by_cases hc : chC C sc ud ut vd vt = 0
  · have HV := Lib.hid (show chV C sc ud ut vd vt = Ab (ppY C sc vd vt - ppY C sc ud ut) by simp only [chV, hc, if_true]; exact Ab_sub _ _)
    have h0 : chK C sc ud ut vd vt = 0 ∧ pcC C sc [(ud, ut), (vd, vt)] = 0 := by
      unfold chC at hc
      split at hc
      · exact ⟨by assumption, hc⟩
      · exact absurd hc (by assumption)
    obtain ⟨e1, p1, p2⟩ := pc_two h0.2
    have e2 : spqV C sc [(ud, ut), (vd, vt)] = pcV C sc [(ud, ut), (vd, vt)] := (spq_0 (by rw [okFs_two]; exact h0.1) (by simp)).2
    have HL := Lib.hid (e2.trans e1)
    obtain ⟨b1, b2⟩ := pp_bd p1
    obtain ⟨b3, b4⟩ := pp_bd p2
    have HC := Lib.hid hc
    clear hc h0 e1 e2 p1 p2
    go_enter Tryz.func90, Tryz.ntmps90
    go_wp2_with fail
    refine (ScalePoints_S C A c sc _ 2 [(ud, ut), (vd, vt)] (by simp) hz hm _ (by repeat (with_reducible first | exact HA.out | assumption | refine Ints.drew ?_ | refine Ints.drewN _ ?_ | refine Ints.alloc _ ?_ | refine Ints.step (by assumption) ?_)) hP).mono ?_; rintro e w1 ⟨v, rfl, hO1, hb1⟩
    rw [HL.out] at hO1
    rw [HE.out, HC.out]
    obtain ⟨A', c', rfl, hcc, _, hPr, _⟩ := hO1.form
    obtain ⟨g, o, rfl, hg, x0, x1, x2, x3⟩ := hPr.two
    have hbel1 : Below w.heap.size w w1 := by repeat (with_reducible first | exact Below.refl _ _ | assumption | refine Bel.alloc ?_ _ | refine Bel.step (by assumption) ?_ | refine Below.drew ?_ | refine Bel.drewN ?_ _ | refine Below.setCell ?_ (by first | exact Nat.le_refl _ | omega | (simp; done) | (simp; omega)) _)
    clear hO1 hPr hb1
    generalize ppX C sc ud ut = X0 at *
    generalize ppX C sc vd vt = X1 at *
    generalize ppY C sc ud ut = Y0 at *
    generalize ppY C sc vd vt = Y1 at *
    have ew : IntKind.i64.wrap (Y1 - Y0) = Y1 - Y0 := wr64 (by omega) (by omega)
    go_wp2
    go_quiet ((first | (go_at_call 100; with_reducible exact quiet_left (l01Abs_c _ (by omega) (by omega) _))))
    go_wp2
    go_ret2
    exact ⟨by rw [HV.out, HC.out]; rfl, by repeat (with_reducible first | exact Below.refl _ _ | assumption | refine Bel.alloc ?_ _ | refine Bel.step (by assumption) ?_ | refine Below.drew ?_ | refine Bel.drewN ?_ _ | refine Below.setCell ?_ (by first | exact Nat.le_refl _ | omega | (simp; done) | (simp; omega)) _)⟩
  · have HV := Lib.hid (show chV C sc ud ut vd vt = 0 by simp [chV, hc])
    have b1 : (chC C sc ud ut vd vt != 0) = true := by simpa using hc
    clear hc
    go_enter Tryz.func90, Tryz.ntmps90
    go_wp2_with fail
    refine (ScalePoints_S C A c sc _ 2 [(ud, ut), (vd, vt)] (by simp) hz hm _ (by repeat (with_reducible first | exact HA.out | assumption | refine Ints.drew ?_ | refine Ints.drewN _ ?_ | refine Ints.alloc _ ?_ | refine Ints.step (by assumption) ?_)) hP).mono ?_; rintro e w1 ⟨v, rfl, hO1, hb1⟩
    rw [HE.out]
    go_wp2
    go_ret2
    exact ⟨by rw [HV.out]; rfl, by repeat (with_reducible first | exact Below.refl _ _ | assumption | refine Bel.alloc ?_ _ | refine Bel.step (by assumption) ?_ | refine Below.drew ?_ | refine Bel.drewN ?_ _ | refine Below.setCell ?_ (by first | exact Nat.le_refl _ | omega | (simp; done) | (simp; omega)) _)⟩
set_option maxHeartbeats 1000000 in
theorem ChartHeight_I (C : Ch) (A : Option Addr) (c : Nat) (sc ud ut vd vt : Int) (hz : C.zs.length ≤ 1048576) (hm : C.nm.size ≤ 1048576) (w : World) (hA : Ints w A C.zs) :
    Calls Tryz.prog 39 #[.agg #[.int .i64 C.dg, .int .i64 C.tn, .string C.nm, .slice A C.zs.length c, .int .i64 C.wd, .int .i64 C.lf, .int .i64 C.rt], .int .i64 sc, .agg #[.int .i64 ud, .int .i64 ut], .agg #[.int .i64 vd, .int .i64 vt]] w fun r w' => r = .returned (.tuple #[.int .i64 (chV C sc ud ut vd vt), .int .i64 (chC C sc ud ut vd vt)]) ∧ Below w.heap.size w w' := by
  have hP := Prs.mk2 (((w.alloc (.cells #[.int .i64 C.dg, .int .i64 C.tn, .string C.nm, .slice A C.zs.length c, .int .i64 C.wd, .int .i64 C.lf, .int .i64 C.rt] 30)).alloc (.cells #[.int .i64 ud, .int .i64 ut] 25)).alloc (.cells #[.int .i64 vd, .int .i64 vt] 25)) 25 ud ut vd vt
  simp only [World.size_alloc] at hP
  have HA := Lib.hid hA
  have HKK := Lib.hid (show chK C sc ud ut vd vt = ckC C sc (okF ud ut && okF vd vt) from rfl)
  clear hA
  by_cases hk : chK C sc ud ut vd vt = 0
  rotate_left
  · have HC := Lib.hid (show chC C sc ud ut vd vt = chK C sc ud ut vd vt ∧ chV C sc ud ut vd vt = 0 by simp [chV, chC, hk])
    have b1 : (chK C sc ud ut vd vt != 0) = true := by simpa using hk
    clear hk
    go_enter Tryz.func39, Tryz.ntmps39
    go_wp2_with fail
    go_at_call 93; refine (checkChart_c C A c sc _ 2 [(ud, ut), (vd, vt)] hz hm (by simp) _ (by repeat (with_reducible first | exact HA.out | assumption | refine Ints.drew ?_ | refine Ints.drewN _ ?_ | refine Ints.alloc _ ?_ | refine Ints.step (by assumption) ?_)) hP).mono ?_; rintro e w1 ⟨rfl, hb1⟩; obtain ⟨hc1, hf1, hz1⟩ := bel hb1; (try simp only [World.size_drew, World.cell?_drew, World.frozen?_drew, World.heap_drewN, World.cell?_drewN, World.frozen?_drewN] at hc1 hf1 hz1); (try have hl1 : w.heap.size < w1.heap.size := zl hb1); (try have hm1 : w.heap.size + 1 < w1.heap.size := zl hb1); (try have hn1 : w.heap.size + 1 + 1 < w1.heap.size := zl hb1); (try have hp1 : b < w1.heap.size := zl hb1); (try have ho1 : b' < w1.heap.size := by (have hq := hb1.size; (try simp at hq); omega))
    rw [okFs_two, ← HKK.out]
    go_wp2
    go_ret2
    exact ⟨by rw [HC.out.1, HC.out.2]; rfl, by repeat (with_reducible first | exact Below.refl _ _ | assumption | refine Bel.alloc ?_ _ | refine Bel.step (by assumption) ?_ | refine Below.drew ?_ | refine Bel.drewN ?_ _ | refine Below.setCell ?_ (by first | exact Nat.le_refl _ | omega | (simp; done) | (simp; omega)) _)⟩
  obtain ⟨h, hf, hs⟩ := ckC_0 (show ckC C sc (okF ud ut && okF vd vt) = 0 from hk)
  have hps : okFs [(ud, ut), (vd, vt)] = true := by rw [okFs_two]; exact hf
  have HK := Lib.hid hk
  have HC := Lib.hid (show chC C sc ud ut vd vt = pcC C sc [(ud, ut), (vd, vt)] by simp [chC, hk])
  clear hk
  by_cases hc : pcC C sc [(ud, ut), (vd, vt)] = 0
  · have HV := Lib.hid (show chV C sc ud ut vd vt = Ab (ppY C sc ud ut - ppY C sc vd vt) by simp only [chV, HC.out, hc, if_true])
    obtain ⟨e1, p1, p2⟩ := pc_two hc
    have HL := Lib.hid e1
    obtain ⟨b1, b2⟩ := pp_bd p1
    obtain ⟨b3, b4⟩ := pp_bd p2
    have HP0 := Lib.hid hc
    clear hc e1 p1 p2
    go_enter Tryz.func39, Tryz.ntmps39
    go_wp2_with fail
    go_at_call 93; refine (checkChart_c C A c sc _ 2 [(ud, ut), (vd, vt)] hz hm (by simp) _ (by repeat (with_reducible first | exact HA.out | assumption | refine Ints.drew ?_ | refine Ints.drewN _ ?_ | refine Ints.alloc _ ?_ | refine Ints.step (by assumption) ?_)) hP).mono ?_; rintro e w1 ⟨rfl, hb1⟩; obtain ⟨hc1, hf1, hz1⟩ := bel hb1; (try simp only [World.size_drew, World.cell?_drew, World.frozen?_drew, World.heap_drewN, World.cell?_drewN, World.frozen?_drewN] at hc1 hf1 hz1); (try have hl1 : w.heap.size < w1.heap.size := zl hb1); (try have hm1 : w.heap.size + 1 < w1.heap.size := zl hb1); (try have hn1 : w.heap.size + 1 + 1 < w1.heap.size := zl hb1); (try have hp1 : b < w1.heap.size := zl hb1); (try have ho1 : b' < w1.heap.size := by (have hq := hb1.size; (try simp at hq); omega))
    rw [okFs_two, ← HKK.out, HK.out]
    have l3 : w.heap.size + 1 + 1 < w1.heap.size := by have := hb1.size; (try simp at this); omega
    have hP2 := Prs.mk2 w1 25 ud ut vd vt
    have hbel1 : Below w.heap.size w w1 := by repeat (with_reducible first | exact Below.refl _ _ | assumption | refine Bel.alloc ?_ _ | refine Bel.step (by assumption) ?_ | refine Below.drew ?_ | refine Bel.drewN ?_ _ | refine Below.setCell ?_ (by first | exact Nat.le_refl _ | omega | (simp; done) | (simp; omega)) _)
    go_wp2_with fail
    refine (chartPoints_c C A c sc _ 2 [(ud, ut), (vd, vt)] h hps hs (by simp) _ (Ints.alloc _ (Ints.step hbel1 HA.out)) hP2).mono ?_; rintro e w2 ⟨v, rfl, hO1, hb2⟩
    rw [HL.out] at hO1
    rw [HP0.out]
    obtain ⟨A', c', rfl, hcc, _, hPr, _⟩ := hO1.form
    obtain ⟨g, o, rfl, hg, x0, x1, x2, x3⟩ := hPr.two
    have hbel2 : Below w.heap.size w w2 := by repeat (with_reducible first | exact Below.refl _ _ | assumption | refine Bel.alloc ?_ _ | refine Bel.step (by assumption) ?_ | refine Below.drew ?_ | refine Bel.drewN ?_ _ | refine Below.setCell ?_ (by first | exact Nat.le_refl _ | omega | (simp; done) | (simp; omega)) _)
    clear hO1 hPr hb1 hb2 hc1 hf1 hz1
    generalize ppX C sc ud ut = X0 at *
    generalize ppX C sc vd vt = X1 at *
    generalize ppY C sc ud ut = Y0 at *
    generalize ppY C sc vd vt = Y1 at *
    go_wp2
    go_quiet ((first | (go_at_call 94; with_reducible exact quiet_left (distance_c _ _ (by omega) (by omega) (by omega) (by omega) _))))
    go_wp2
    go_ret2
    exact ⟨by rw [HV.out, HC.out, HP0.out]; rfl, by repeat (with_reducible first | exact Below.refl _ _ | assumption | refine Bel.alloc ?_ _ | refine Bel.step (by assumption) ?_ | refine Below.drew ?_ | refine Bel.drewN ?_ _ | refine Below.setCell ?_ (by first | exact Nat.le_refl _ | omega | (simp; done) | (simp; omega)) _)⟩
  · have HV := Lib.hid (show chV C sc ud ut vd vt = 0 by simp [chV, HC.out, hc])
    have b1 : (pcC C sc [(ud, ut), (vd, vt)] != 0) = true := by simpa using hc
    clear hc
    go_enter Tryz.func39, Tryz.ntmps39
    go_wp2_with fail
    go_at_call 93; refine (checkChart_c C A c sc _ 2 [(ud, ut), (vd, vt)] hz hm (by simp) _ (by repeat (with_reducible first | exact HA.out | assumption | refine Ints.drew ?_ | refine Ints.drewN _ ?_ | refine Ints.alloc _ ?_ | refine Ints.step (by assumption) ?_)) hP).mono ?_; rintro e w1 ⟨rfl, hb1⟩; obtain ⟨hc1, hf1, hz1⟩ := bel hb1; (try simp only [World.size_drew, World.cell?_drew, World.frozen?_drew, World.heap_drewN, World.cell?_drewN, World.frozen?_drewN] at hc1 hf1 hz1); (try have hl1 : w.heap.size < w1.heap.size := zl hb1); (try have hm1 : w.heap.size + 1 < w1.heap.size := zl hb1); (try have hn1 : w.heap.size + 1 + 1 < w1.heap.size := zl hb1); (try have hp1 : b < w1.heap.size := zl hb1); (try have ho1 : b' < w1.heap.size := by (have hq := hb1.size; (try simp at hq); omega))
    rw [okFs_two, ← HKK.out, HK.out]
    have l3 : w.heap.size + 1 + 1 < w1.heap.size := by have := hb1.size; (try simp at this); omega
    have hP2 := Prs.mk2 w1 25 ud ut vd vt
    have hbel1 : Below w.heap.size w w1 := by repeat (with_reducible first | exact Below.refl _ _ | assumption | refine Bel.alloc ?_ _ | refine Bel.step (by assumption) ?_ | refine Below.drew ?_ | refine Bel.drewN ?_ _ | refine Below.setCell ?_ (by first | exact Nat.le_refl _ | omega | (simp; done) | (simp; omega)) _)
    go_wp2_with fail
    refine (chartPoints_c C A c sc _ 2 [(ud, ut), (vd, vt)] h hps hs (by simp) _ (Ints.alloc _ (Ints.step hbel1 HA.out)) hP2).mono ?_; rintro e w2 ⟨v, rfl, hO1, hb2⟩
    have hbel2 : Below w.heap.size w w2 := by repeat (with_reducible first | exact Below.refl _ _ | assumption | refine Bel.alloc ?_ _ | refine Bel.step (by assumption) ?_ | refine Below.drew ?_ | refine Bel.drewN ?_ _ | refine Below.setCell ?_ (by first | exact Nat.le_refl _ | omega | (simp; done) | (simp; omega)) _)
    go_wp2
    go_ret2
    exact ⟨by rw [HV.out, HC.out]; rfl, by repeat (with_reducible first | exact Below.refl _ _ | assumption | refine Bel.alloc ?_ _ | refine Bel.step (by assumption) ?_ | refine Below.drew ?_ | refine Bel.drewN ?_ _ | refine Below.setCell ?_ (by first | exact Nat.le_refl _ | omega | (simp; done) | (simp; omega)) _)⟩
end Go.Proofs.YtpmcgicopogbhaaGreat
