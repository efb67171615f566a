/- Chapter 24: errors of readings. Conditions: as stated at each contract. -/
import Derived.Test.YtpmcgicopogbhaaGreatProg
import Derived.Test.YtpmcgicopogbhaaGreatBase
import Derived.Test.YtpmcgicopogbhaaGreatZy
import Derived.Test.YtpmcgicopogbhaaGreatL01
import Derived.Test.YtpmcgicopogbhaaGreatCp
import Derived.Test.YtpmcgicopogbhaaGreatL18
import Derived.Test.YtpmcgicopogbhaaGreatL23
import Derived.Test.YtpmcgicopogbhaaGreatL03
import Derived.Test.YtpmcgicopogbhaaGreatL23d
import Derived.Test.YtpmcgicopogbhaaGreatL23e
import Derived.Test.YtpmcgicopogbhaaGreatL24
import Derived.Test.YtpmcgicopogbhaaGreatL24b
import Derived.Test.YtpmcgicopogbhaaGreatL24c
import Derived.Test.YtpmcgicopogbhaaGreatL24f
import Derived.Test.YtpmcgicopogbhaaGreatL24g
import Derived.WalkKit
import Derived.WalkSpells
import Derived.WalkLawsBesides
import Derived.Lib.Hide
import Derived.Deep.QuietTactic
import Derived.BigQuiet
import Derived.Deep.Draws
import Derived.Deep.RegionHeld3
namespace Go.Proofs.YtpmcgicopogbhaaGreat
set_option linter.unusedSimpArgs false
open Go.RowKit
set_option linter.unusedVariables false
/-- The error of a reading. -/
def reX (C : Ch) (ud ut vd vt e : Int) : Int := mx (rdH C ud ut vd vt e - fmL C ud ut vd vt) (fmH C ud ut vd vt - rdL C ud ut vd vt e)
def reV (C : Ch) (ud ut vd vt e : Int) : Int := if lhC C ud ut vd vt = 0 then reX C ud ut vd vt e else 0
def rrV (C : Ch) (ud ut vd vt e : Int) : Int := if rqC C ud ut vd vt e = 0 then reX C ud ut vd vt e else 0
theorem fm_two (C : Ch) (ud ut vd vt : Int) : (fmT C [(ud, ut), (vd, vt)] [(ud, ut), (vd, vt)].length).1 = fmL C ud ut vd vt ∧ (fmT C [(ud, ut), (vd, vt)] [(ud, ut), (vd, vt)].length).2 = fmH C ud ut vd vt := ⟨rfl, rfl⟩
set_option maxRecDepth 50000 in
set_option maxHeartbeats 1000000 in
theorem ReadingError_S (C : Ch) (A : Option Addr) (c : Nat) (ud ut vd vt e : Int) (hn : C.zs.length ≤ 1048576) (hm : C.nm.size ≤ 1048576) (w : World) (hA : Ints w A C.zs) :
    Calls Tryz.prog 130 #[.agg #[.int .i64 C.dg, .int .i64 C.tn, .string C.nm, .slice A C.zs.length c, .int .i64 C.wd, .int .i64 C.lf, .int .i64 C.rt], .agg #[.int .i64 ud, .int .i64 ut], .agg #[.int .i64 vd, .int .i64 vt], .int .i64 e] w fun r w' => r = .returned (.tuple #[.int .i64 (rrV C ud ut vd vt e), .int .i64 (rqC C ud ut vd vt e)]) ∧ Below w.heap.size w w' := by
  by_cases k : rqC C ud ut vd vt e = 0
  · have HV := Lib.hid (show rrV C ud ut vd vt e = reX C ud ut vd vt e by simp [rrV, k])
    obtain ⟨hk, k0⟩ := rq_00 k
    have HQ := Lib.hid (rq_0 hk)
    obtain ⟨h, hu, hv, h1, h2⟩ := clC_e hk
    have HE := Lib.hid (show reX C ud ut vd vt e = mx (rdH C ud ut vd vt e - fmL C ud ut vd vt) (fmH C ud ut vd vt - rdL C ud ut vd vt e) from rfl)
    have hps : okFs [(ud, ut), (vd, vt)] = true := by rw [okFs_two, hu, hv]; rfl
    have HF := Lib.hid (fm_two C ud ut vd vt)
    obtain ⟨r1, r2, r3, r4⟩ := rd_bd (e := e) h k0 h1 h2
    obtain ⟨m1, m2, m3, m4⟩ := fm_bd h hu hv
    have HK := Lib.hid k
    have HI := Lib.hid hA
    clear k k0 hA
    go_enter Tryz.func130, Tryz.ntmps130
    go_wp2_with fail
    go_at_call 151; refine (ReadChart_S _ _ _ _ _ _ _ _ hn hm _ (by repeat (with_reducible first | exact HI.out | assumption | refine Ints.drew ?_ | refine Ints.drewN _ ?_ | refine Ints.alloc _ ?_ | refine Ints.step (by assumption) ?_))).mono ?_; rintro e w1 ⟨rfl, hb1⟩; obtain ⟨hc1, hf1, hz1⟩ := bel hb1; (try simp only [World.size_drew, World.cell?_drew, World.frozen?_drew, World.heap_drewN, World.cell?_drewN, World.frozen?_drewN] at hc1 hf1 hz1); (try have hl1 : w.heap.size < w1.heap.size := zl hb1); (try have hm1 : w.heap.size + 1 < w1.heap.size := zl hb1); (try have hn1 : w.heap.size + 1 + 1 < w1.heap.size := zl hb1); (try have hp1 : b < w1.heap.size := zl hb1); (try have ho1 : b' < w1.heap.size := by (have hq := hb1.size; (try simp at hq); omega))
    rw [HK.out, HQ.out.2.1, HQ.out.2.2]
    have l3 : w.heap.size + 1 + 1 < w1.heap.size := by have := hb1.size; simp at this; omega
    have hP := Prs.mk2 (w1.alloc (.cells #[.int .i64 (rdL C ud ut vd vt e), .int .i64 (rdH C ud ut vd vt e)] 92)) 25 ud ut vd vt
    simp only [World.size_alloc] at hP
    go_wp2_with fail
    go_at_call 64; refine (l18Log_c _ _ _ _ _ [(ud, ut), (vd, vt)] h hps (by simp) _ (by repeat (with_reducible first | exact HI.out | assumption | refine Ints.drew ?_ | refine Ints.drewN _ ?_ | refine Ints.alloc _ ?_ | refine Ints.step (by assumption) ?_)) hP).mono ?_; rintro e w2 ⟨rfl, hb2⟩; obtain ⟨hc2, hf2, hz2⟩ := bel hb2; (try simp only [World.size_drew, World.cell?_drew, World.frozen?_drew, World.heap_drewN, World.cell?_drewN, World.frozen?_drewN] at hc2 hf2 hz2); (try have hl2 : w.heap.size < w2.heap.size := zl hb2); (try have hm2 : w.heap.size + 1 < w2.heap.size := zl hb2); (try have hn2 : w.heap.size + 1 + 1 < w2.heap.size := zl hb2); (try have hp2 : b < w2.heap.size := zl hb2); (try have ho2 : b' < w2.heap.size := by (have hq := hb2.size; (try simp at hq); omega))
    rw [HF.out.1, HF.out.2]
    have l4 : w1.heap.size < w2.heap.size := by have := hb2.size; simp at this; omega
    generalize rdL C ud ut vd vt e = a at *
    generalize rdH C ud ut vd vt e = b at *
    generalize fmL C ud ut vd vt = p at *
    generalize fmH C ud ut vd vt = q at *
    go_wp2
    all_goals
      go_ret2
      refine ⟨?_, by repeat (with_reducible first | exact Below.refl _ _ | assumption | refine Bel.alloc ?_ _ | refine Bel.step (by assumption) ?_ | refine Below.drew ?_ | refine Bel.drewN ?_ _ | refine Below.setCell ?_ (by first | exact Nat.le_refl _ | omega | (simp; done) | (simp; omega)) _)⟩
      rw [HV.out, HE.out, HK.out]
      first | (rw [show mx (b - p) (q - a) = b - p by unfold mx; split <;> omega]; rfl) | (rw [show mx (b - p) (q - a) = q - a by unfold mx; split <;> omega]; rfl)
  · have HV := Lib.hid (show rrV C ud ut vd vt e = 0 by simp [rrV, k])
    have b1 : (rqC C ud ut vd vt e != 0) = true := by simpa using k
    have HI := Lib.hid hA
    clear k hA
    go_enter Tryz.func130, Tryz.ntmps130
    go_wp2_with fail
    go_at_call 151; refine (ReadChart_S _ _ _ _ _ _ _ _ hn hm _ (by repeat (with_reducible first | exact HI.out | assumption | refine Ints.drew ?_ | refine Ints.drewN _ ?_ | refine Ints.alloc _ ?_ | refine Ints.step (by assumption) ?_))).mono ?_; rintro e w1 ⟨rfl, hb1⟩; obtain ⟨hc1, hf1, hz1⟩ := bel hb1; (try simp only [World.size_drew, World.cell?_drew, World.frozen?_drew, World.heap_drewN, World.cell?_drewN, World.frozen?_drewN] at hc1 hf1 hz1); (try have hl1 : w.heap.size < w1.heap.size := zl hb1); (try have hm1 : w.heap.size + 1 < w1.heap.size := zl hb1); (try have hn1 : w.heap.size + 1 + 1 < w1.heap.size := zl hb1); (try have hp1 : b < w1.heap.size := zl hb1); (try have ho1 : b' < w1.heap.size := by (have hq := hb1.size; (try simp at hq); omega))
    go_wp2
    go_ret2
    exact ⟨by rw [HV.out]; rfl, by repeat (with_reducible first | exact Below.refl _ _ | assumption | refine Bel.alloc ?_ _ | refine Bel.step (by assumption) ?_ | refine Below.drew ?_ | refine Bel.drewN ?_ _ | refine Below.setCell ?_ (by first | exact Nat.le_refl _ | omega | (simp; done) | (simp; omega)) _)⟩
set_option maxRecDepth 50000 in
set_option maxHeartbeats 1000000 in
theorem readingError_c (C : Ch) (A : Option Addr) (c : Nat) (ud ut vd vt e : Int) (hn : C.zs.length ≤ 1048576) (hm : C.nm.size ≤ 1048576) (h : okCh C = true) (hu : okF ud ut = true) (hv : okF vd vt = true) (h1 : 0 ≤ e) (h2 : e ≤ 200) (w : World) (hA : Ints w A C.zs) :
    Calls Tryz.prog 127 #[.agg #[.int .i64 C.dg, .int .i64 C.tn, .string C.nm, .slice A C.zs.length c, .int .i64 C.wd, .int .i64 C.lf, .int .i64 C.rt], .agg #[.int .i64 ud, .int .i64 ut], .agg #[.int .i64 vd, .int .i64 vt], .int .i64 e] w fun r w' => r = .returned (.tuple #[.int .i64 (reV C ud ut vd vt e), .int .i64 (lhC C ud ut vd vt)]) ∧ Below w.heap.size w w' := by
  by_cases k : lhC C ud ut vd vt = 0
  · have HV := Lib.hid (show reV C ud ut vd vt e = reX C ud ut vd vt e by simp [reV, k])
    have k0 := k
    have HE := Lib.hid (show reX C ud ut vd vt e = mx (rdH C ud ut vd vt e - fmL C ud ut vd vt) (fmH C ud ut vd vt - rdL C ud ut vd vt e) from rfl)
    have hps : okFs [(ud, ut), (vd, vt)] = true := by rw [okFs_two, hu, hv]; rfl
    have HF := Lib.hid (fm_two C ud ut vd vt)
    obtain ⟨r1, r2, r3, r4⟩ := rd_bd (e := e) h k0 h1 h2
    obtain ⟨m1, m2, m3, m4⟩ := fm_bd h hu hv
    have HK := Lib.hid k
    have HI := Lib.hid hA
    clear k k0 hA
    go_enter Tryz.func127, Tryz.ntmps127
    go_wp2_with fail
    go_at_call 148; refine (readChart_c _ _ _ _ _ _ _ _ hn hm h hu hv h1 h2 _ (by repeat (with_reducible first | exact HI.out | assumption | refine Ints.drew ?_ | refine Ints.drewN _ ?_ | refine Ints.alloc _ ?_ | refine Ints.step (by assumption) ?_))).mono ?_; rintro e w1 ⟨rfl, hb1⟩; obtain ⟨hc1, hf1, hz1⟩ := bel hb1; (try simp only [World.size_drew, World.cell?_drew, World.frozen?_drew, World.heap_drewN, World.cell?_drewN, World.frozen?_drewN] at hc1 hf1 hz1); (try have hl1 : w.heap.size < w1.heap.size := zl hb1); (try have hm1 : w.heap.size + 1 < w1.heap.size := zl hb1); (try have hn1 : w.heap.size + 1 + 1 < w1.heap.size := zl hb1); (try have hp1 : b < w1.heap.size := zl hb1); (try have ho1 : b' < w1.heap.size := by (have hq := hb1.size; (try simp at hq); omega))
    rw [HK.out]
    have l3 : w.heap.size + 1 + 1 < w1.heap.size := by have := hb1.size; simp at this; omega
    have hP := Prs.mk2 (w1.alloc (.cells #[.int .i64 (rdL C ud ut vd vt e), .int .i64 (rdH C ud ut vd vt e)] 92)) 25 ud ut vd vt
    simp only [World.size_alloc] at hP
    go_wp2_with fail
    go_at_call 61; refine (formulaLog_c _ _ _ _ _ [(ud, ut), (vd, vt)] h hps (by simp) _ (by repeat (with_reducible first | exact HI.out | assumption | refine Ints.drew ?_ | refine Ints.drewN _ ?_ | refine Ints.alloc _ ?_ | refine Ints.step (by assumption) ?_)) hP).mono ?_; rintro e w2 ⟨rfl, hb2⟩; obtain ⟨hc2, hf2, hz2⟩ := bel hb2; (try simp only [World.size_drew, World.cell?_drew, World.frozen?_drew, World.heap_drewN, World.cell?_drewN, World.frozen?_drewN] at hc2 hf2 hz2); (try have hl2 : w.heap.size < w2.heap.size := zl hb2); (try have hm2 : w.heap.size + 1 < w2.heap.size := zl hb2); (try have hn2 : w.heap.size + 1 + 1 < w2.heap.size := zl hb2); (try have hp2 : b < w2.heap.size := zl hb2); (try have ho2 : b' < w2.heap.size := by (have hq := hb2.size; (try simp at hq); omega))
    rw [HF.out.1, HF.out.2]
    have l4 : w1.heap.size < w2.heap.size := by have := hb2.size; simp at this; omega
    generalize rdL C ud ut vd vt e = a at *
    generalize rdH C ud ut vd vt e = b at *
    generalize fmL C ud ut vd vt = p at *
    generalize fmH C ud ut vd vt = q at *
    go_wp2
    all_goals
      go_ret2
      refine ⟨?_, by repeat (with_reducible first | exact Below.refl _ _ | assumption | refine Bel.alloc ?_ _ | refine Bel.step (by assumption) ?_ | refine Below.drew ?_ | refine Bel.drewN ?_ _ | refine Below.setCell ?_ (by first | exact Nat.le_refl _ | omega | (simp; done) | (simp; omega)) _)⟩
      rw [HV.out, HE.out, HK.out]
      first | (rw [show mx (b - p) (q - a) = b - p by unfold mx; split <;> omega]; rfl) | (rw [show mx (b - p) (q - a) = q - a by unfold mx; split <;> omega]; rfl)
  · have HV := Lib.hid (show reV C ud ut vd vt e = 0 by simp [reV, k])
    have b1 : (lhC C ud ut vd vt != 0) = true := by simpa using k
    have HI := Lib.hid hA
    clear k hA
    go_enter Tryz.func127, Tryz.ntmps127
    go_wp2_with fail
    go_at_call 148; refine (readChart_c _ _ _ _ _ _ _ _ hn hm h hu hv h1 h2 _ (by repeat (with_reducible first | exact HI.out | assumption | refine Ints.drew ?_ | refine Ints.drewN _ ?_ | refine Ints.alloc _ ?_ | refine Ints.step (by assumption) ?_))).mono ?_; rintro e w1 ⟨rfl, hb1⟩; obtain ⟨hc1, hf1, hz1⟩ := bel hb1; (try simp only [World.size_drew, World.cell?_drew, World.frozen?_drew, World.heap_drewN, World.cell?_drewN, World.frozen?_drewN] at hc1 hf1 hz1); (try have hl1 : w.heap.size < w1.heap.size := zl hb1); (try have hm1 : w.heap.size + 1 < w1.heap.size := zl hb1); (try have hn1 : w.heap.size + 1 + 1 < w1.heap.size := zl hb1); (try have hp1 : b < w1.heap.size := zl hb1); (try have ho1 : b' < w1.heap.size := by (have hq := hb1.size; (try simp at hq); omega))
    go_wp2
    go_ret2
    exact ⟨by rw [HV.out]; rfl, by repeat (with_reducible first | exact Below.refl _ _ | assumption | refine Bel.alloc ?_ _ | refine Bel.step (by assumption) ?_ | refine Below.drew ?_ | refine Bel.drewN ?_ _ | refine Below.setCell ?_ (by first | exact Nat.le_refl _ | omega | (simp; done) | (simp; omega)) _)⟩
end Go.Proofs.YtpmcgicopogbhaaGreat
