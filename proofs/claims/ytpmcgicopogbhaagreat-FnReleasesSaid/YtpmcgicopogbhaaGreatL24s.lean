/- Chapter 24: exact spans. Conditions: as stated at each contract. -/
import Derived.Test.YtpmcgicopogbhaaGreatProg
import Derived.Test.YtpmcgicopogbhaaGreatBase
import Derived.Test.YtpmcgicopogbhaaGreatZy
import Derived.Test.YtpmcgicopogbhaaGreatL01
import Derived.Test.YtpmcgicopogbhaaGreatCp
import Derived.Test.YtpmcgicopogbhaaGreatL18
import Derived.Test.YtpmcgicopogbhaaGreatL23
import Derived.Test.YtpmcgicopogbhaaGreatL03
import Derived.Test.YtpmcgicopogbhaaGreatL23d
import Derived.Test.YtpmcgicopogbhaaGreatL23e
import Derived.Test.YtpmcgicopogbhaaGreatL24
import Derived.Test.YtpmcgicopogbhaaGreatL04
import Derived.Test.YtpmcgicopogbhaaGreatL24b
import Derived.Test.YtpmcgicopogbhaaGreatL24f
import Derived.Test.YtpmcgicopogbhaaGreatL24g
import Derived.Test.YtpmcgicopogbhaaGreatL24c
import Derived.WalkKit
import Derived.WalkSpells
import Derived.WalkLawsBesides
import Derived.Lib.Hide
import Derived.Deep.QuietTactic
import Derived.BigQuiet
import Derived.Deep.Draws
import Derived.Deep.RegionHeld3
namespace Go.Proofs.YtpmcgicopogbhaaGreat
set_option linter.unusedSimpArgs false
open Go.RowKit
set_option linter.unusedVariables false
theorem fm_two_s (C : Ch) (ud ut vd vt : Int) : (fmT C [(ud, ut), (vd, vt)] [(ud, ut), (vd, vt)].length).1 = fmL C ud ut vd vt ∧ (fmT C [(ud, ut), (vd, vt)] [(ud, ut), (vd, vt)].length).2 = fmH C ud ut vd vt := ⟨rfl, rfl⟩
def esC (C : Ch) (ud ut vd vt : Int) : Int := if clC C 0 (okF ud ut && okF vd vt) = 0 then spC (fmL C ud ut vd vt) (fmH C ud ut vd vt) else clC C 0 (okF ud ut && okF vd vt)
def esV (C : Ch) (ud ut vd vt x : Int) : Int := if clC C 0 (okF ud ut && okF vd vt) = 0 then spV (fmL C ud ut vd vt) (fmH C ud ut vd vt) x else 0
def es0 (C : Ch) (ud ut vd vt : Int) : Int := esV C ud ut vd vt (atD (nBw (fmL C ud ut vd vt)))
def es1 (C : Ch) (ud ut vd vt : Int) : Int := esV C ud ut vd vt (atT (nBw (fmL C ud ut vd vt)))
def es2 (C : Ch) (ud ut vd vt : Int) : Int := esV C ud ut vd vt (atD (nAb (fmH C ud ut vd vt)))
def es3 (C : Ch) (ud ut vd vt : Int) : Int := esV C ud ut vd vt (atT (nAb (fmH C ud ut vd vt)))
set_option maxHeartbeats 1000000 in
theorem ExactSpan_I (C : Ch) (A : Option Addr) (c : Nat) (ud ut vd vt : Int) (hn : C.zs.length ≤ 1048576) (hm : C.nm.size ≤ 1048576) (w : World) (hA : Ints w A C.zs) :
    Calls Tryz.prog 24 #[.agg #[.int .i64 C.dg, .int .i64 C.tn, .string C.nm, .slice A C.zs.length c, .int .i64 C.wd, .int .i64 C.lf, .int .i64 C.rt], .agg #[.int .i64 ud, .int .i64 ut], .agg #[.int .i64 vd, .int .i64 vt]] w fun r w' => r = .returned (.tuple #[.agg #[.int .i64 (es0 C ud ut vd vt), .int .i64 (es1 C ud ut vd vt)], .agg #[.int .i64 (es2 C ud ut vd vt), .int .i64 (es3 C ud ut vd vt)], .int .i64 (esC C ud ut vd vt)]) ∧ Below w.heap.size w w' := by
  have hP := Prs.mk2 (((((w.alloc (.cells #[.int .i64 C.dg, .int .i64 C.tn, .string C.nm, .slice A C.zs.length c, .int .i64 C.wd, .int .i64 C.lf, .int .i64 C.rt] 30)).alloc (.cells #[.int .i64 ud, .int .i64 ut] 25)).alloc (.cells #[.int .i64 vd, .int .i64 vt] 25)).alloc (.cells #[.int .i64 0, .int .i64 0] 25)).alloc (.cells #[.int .i64 0, .int .i64 0] 25)) 25 ud ut vd vt
  simp only [World.size_alloc] at hP
  have HI := Lib.hid hA
  clear hA
  by_cases hk : clC C 0 (okF ud ut && okF vd vt) = 0
  · have HV := Lib.hid (show esC C ud ut vd vt = spC (fmL C ud ut vd vt) (fmH C ud ut vd vt) ∧ ∀ x, esV C ud ut vd vt x = spV (fmL C ud ut vd vt) (fmH C ud ut vd vt) x by simp [esC, esV, hk])
    have HD := Lib.hid (show es0 C ud ut vd vt = esV C ud ut vd vt (atD (nBw (fmL C ud ut vd vt))) ∧ es1 C ud ut vd vt = esV C ud ut vd vt (atT (nBw (fmL C ud ut vd vt))) ∧ es2 C ud ut vd vt = esV C ud ut vd vt (atD (nAb (fmH C ud ut vd vt))) ∧ es3 C ud ut vd vt = esV C ud ut vd vt (atT (nAb (fmH C ud ut vd vt))) from ⟨rfl, rfl, rfl, rfl⟩)
    obtain ⟨h, hu, hv, _, _⟩ := clC_e hk
    have hps : okFs [(ud, ut), (vd, vt)] = true := by rw [okFs_two, hu, hv]; rfl
    have HF := Lib.hid (fm_two_s C ud ut vd vt)
    have HK := Lib.hid hk
    clear hk
    go_enter Tryz.func24, Tryz.ntmps24
    go_wp2_with fail
    go_at_call 53; refine (checkLine_c C A c 0 _ 2 [(ud, ut), (vd, vt)] hn hm (by simp) _ (by repeat (with_reducible first | exact HI.out | assumption | refine Ints.drew ?_ | refine Ints.drewN _ ?_ | refine Ints.alloc _ ?_ | refine Ints.step (by assumption) ?_)) hP).mono ?_; rintro e w1 ⟨rfl, hb1⟩; obtain ⟨hc1, hf1, hz1⟩ := bel hb1; (try simp only [World.size_drew, World.cell?_drew, World.frozen?_drew, World.heap_drewN, World.cell?_drewN, World.frozen?_drewN] at hc1 hf1 hz1); (try have hl1 : w.heap.size < w1.heap.size := zl hb1); (try have hm1 : w.heap.size + 1 < w1.heap.size := zl hb1); (try have hn1 : w.heap.size + 1 + 1 < w1.heap.size := zl hb1); (try have hp1 : b < w1.heap.size := zl hb1); (try have ho1 : b' < w1.heap.size := by (have hq := hb1.size; (try simp at hq); omega))
    rw [okFs_two, HK.out]
    have l3 : w.heap.size + 1 + 1 + 1 + 1 < w1.heap.size := by have := hb1.size; simp at this; omega
    have l4 : w.heap.size + 1 + 1 + 1 < w1.heap.size := by omega
    have r0 : w1.cell? ⟨w.heap.size + 1 + 1 + 1, 0, none⟩ = some (.int .i64 0) := by simp [go_sem, *]
    have r1 : w1.cell? ⟨w.heap.size + 1 + 1 + 1, 1, none⟩ = some (.int .i64 0) := by simp [go_sem, *]
    have r2 : w1.cell? ⟨w.heap.size + 1 + 1 + 1 + 1, 0, none⟩ = some (.int .i64 0) := by simp [go_sem, *]
    have r3 : w1.cell? ⟨w.heap.size + 1 + 1 + 1 + 1, 1, none⟩ = some (.int .i64 0) := by simp [go_sem, *]
    have g0 : w1.frozen? ⟨w.heap.size + 1 + 1 + 1, 0, none⟩ = false := by simp [go_sem, *]
    have g1 : w1.frozen? ⟨w.heap.size + 1 + 1 + 1, 1, none⟩ = false := by simp [go_sem, *]
    have g2 : w1.frozen? ⟨w.heap.size + 1 + 1 + 1 + 1, 0, none⟩ = false := by simp [go_sem, *]
    have g3 : w1.frozen? ⟨w.heap.size + 1 + 1 + 1 + 1, 1, none⟩ = false := by simp [go_sem, *]
    have hP2 := Prs.mk2 w1 25 ud ut vd vt
    go_wp2_with fail
    go_at_call 61; refine (formulaLog_c _ _ _ _ _ [(ud, ut), (vd, vt)] h hps (by simp) _ (by repeat (with_reducible first | exact HI.out | assumption | refine Ints.drew ?_ | refine Ints.drewN _ ?_ | refine Ints.alloc _ ?_ | refine Ints.step (by assumption) ?_)) hP2).mono ?_; rintro e w2 ⟨rfl, hb2⟩; obtain ⟨hc2, hf2, hz2⟩ := bel hb2; (try simp only [World.size_drew, World.cell?_drew, World.frozen?_drew, World.heap_drewN, World.cell?_drewN, World.frozen?_drewN] at hc2 hf2 hz2); (try have hl2 : w.heap.size < w2.heap.size := zl hb2); (try have hm2 : w.heap.size + 1 < w2.heap.size := zl hb2); (try have hn2 : w.heap.size + 1 + 1 < w2.heap.size := zl hb2); (try have hp2 : b < w2.heap.size := zl hb2); (try have ho2 : b' < w2.heap.size := by (have hq := hb2.size; (try simp at hq); omega))
    rw [HF.out.1, HF.out.2]
    have hbel2 : Below w.heap.size w w2 := by repeat (with_reducible first | exact Below.refl _ _ | assumption | refine Bel.alloc ?_ _ | refine Bel.step (by assumption) ?_ | refine Below.drew ?_ | refine Bel.drewN ?_ _ | refine Below.setCell ?_ (by first | exact Nat.le_refl _ | omega | (simp; done) | (simp; omega)) _)
    have l5 : w.heap.size + 1 + 1 + 1 + 1 < w2.heap.size := by have := hb2.size; simp at this; omega
    have l6 : w.heap.size + 1 + 1 + 1 < w2.heap.size := by omega
    have r0 : w2.cell? ⟨w.heap.size + 1 + 1 + 1, 0, none⟩ = some (.int .i64 0) := by simp [go_sem, *]
    have r1 : w2.cell? ⟨w.heap.size + 1 + 1 + 1, 1, none⟩ = some (.int .i64 0) := by simp [go_sem, *]
    have r2 : w2.cell? ⟨w.heap.size + 1 + 1 + 1 + 1, 0, none⟩ = some (.int .i64 0) := by simp [go_sem, *]
    have r3 : w2.cell? ⟨w.heap.size + 1 + 1 + 1 + 1, 1, none⟩ = some (.int .i64 0) := by simp [go_sem, *]
    have g0 : w2.frozen? ⟨w.heap.size + 1 + 1 + 1, 0, none⟩ = false := by simp [go_sem, *]
    have g1 : w2.frozen? ⟨w.heap.size + 1 + 1 + 1, 1, none⟩ = false := by simp [go_sem, *]
    have g2 : w2.frozen? ⟨w.heap.size + 1 + 1 + 1 + 1, 0, none⟩ = false := by simp [go_sem, *]
    have g3 : w2.frozen? ⟨w.heap.size + 1 + 1 + 1 + 1, 1, none⟩ = false := by simp [go_sem, *]
    clear hb1 hc1 hf1 hz1 hb2 hc2 hf2 hz2 hP2
    go_wp2_with fail
    go_at_call 59; refine (spanOf_c _ _ _).mono ?_; rintro e w3 ⟨rfl, hb3⟩; obtain ⟨hc3, hf3, hz3⟩ := bel hb3; (try simp only [World.size_drew, World.cell?_drew, World.frozen?_drew, World.heap_drewN, World.cell?_drewN, World.frozen?_drewN] at hc3 hf3 hz3); (try have hl3 : w.heap.size < w3.heap.size := zl hb3); (try have hm3 : w.heap.size + 1 < w3.heap.size := zl hb3); (try have hn3 : w.heap.size + 1 + 1 < w3.heap.size := zl hb3); (try have hp3 : b < w3.heap.size := zl hb3); (try have ho3 : b' < w3.heap.size := by (have hq := hb3.size; (try simp at hq); omega))
    go_wp2
    refine bodyPost_ret (v := .tuple #[.agg #[.int .i64 (spV (fmL C ud ut vd vt) (fmH C ud ut vd vt) (atD (nBw (fmL C ud ut vd vt)))), .int .i64 (spV (fmL C ud ut vd vt) (fmH C ud ut vd vt) (atT (nBw (fmL C ud ut vd vt))))], .agg #[.int .i64 (spV (fmL C ud ut vd vt) (fmH C ud ut vd vt) (atD (nAb (fmH C ud ut vd vt)))), .int .i64 (spV (fmL C ud ut vd vt) (fmH C ud ut vd vt) (atT (nAb (fmH C ud ut vd vt))))], .int .i64 (spC (fmL C ud ut vd vt) (fmH C ud ut vd vt))]) (by simp [results, Tryz.results24, go_sem, *]) rfl ⟨by rw [HD.out.1, HD.out.2.1, HD.out.2.2.1, HD.out.2.2.2, HV.out.1, HV.out.2, HV.out.2, HV.out.2, HV.out.2], by repeat (with_reducible first | exact Below.refl _ _ | assumption | refine Bel.alloc ?_ _ | refine Bel.step (by assumption) ?_ | refine Below.drew ?_ | refine Bel.drewN ?_ _ | refine Below.setCell ?_ (by first | exact Nat.le_refl _ | omega | (simp; done) | (simp; omega)) _)⟩
  · have HV := Lib.hid (show esC C ud ut vd vt = clC C 0 (okF ud ut && okF vd vt) ∧ es0 C ud ut vd vt = 0 ∧ es1 C ud ut vd vt = 0 ∧ es2 C ud ut vd vt = 0 ∧ es3 C ud ut vd vt = 0 by simp [esC, esV, es0, es1, es2, es3, hk])
    have b1 : (clC C 0 (okF ud ut && okF vd vt) != 0) = true := by simpa using hk
    clear hk
    go_enter Tryz.func24, Tryz.ntmps24
    go_wp2_with fail
    go_at_call 53; refine (checkLine_c C A c 0 _ 2 [(ud, ut), (vd, vt)] hn hm (by simp) _ (by repeat (with_reducible first | exact HI.out | assumption | refine Ints.drew ?_ | refine Ints.drewN _ ?_ | refine Ints.alloc _ ?_ | refine Ints.step (by assumption) ?_)) hP).mono ?_; rintro e w1 ⟨rfl, hb1⟩; obtain ⟨hc1, hf1, hz1⟩ := bel hb1; (try simp only [World.size_drew, World.cell?_drew, World.frozen?_drew, World.heap_drewN, World.cell?_drewN, World.frozen?_drewN] at hc1 hf1 hz1); (try have hl1 : w.heap.size < w1.heap.size := zl hb1); (try have hm1 : w.heap.size + 1 < w1.heap.size := zl hb1); (try have hn1 : w.heap.size + 1 + 1 < w1.heap.size := zl hb1); (try have hp1 : b < w1.heap.size := zl hb1); (try have ho1 : b' < w1.heap.size := by (have hq := hb1.size; (try simp at hq); omega))
    rw [okFs_two]
    have l3 : w.heap.size + 1 + 1 + 1 + 1 < w1.heap.size := by have := hb1.size; simp at this; omega
    have l4 : w.heap.size + 1 + 1 + 1 < w1.heap.size := by omega
    go_wp2
    refine bodyPost_ret (v := .tuple #[.agg #[.int .i64 0, .int .i64 0], .agg #[.int .i64 0, .int .i64 0], .int .i64 (clC C 0 (okF ud ut && okF vd vt))]) (by simp [results, Tryz.results24, go_sem, *]) rfl ⟨by rw [HV.out.1, HV.out.2.1, HV.out.2.2.1, HV.out.2.2.2.1, HV.out.2.2.2.2], by repeat (with_reducible first | exact Below.refl _ _ | assumption | refine Bel.alloc ?_ _ | refine Bel.step (by assumption) ?_ | refine Below.drew ?_ | refine Bel.drewN ?_ _ | refine Below.setCell ?_ (by first | exact Nat.le_refl _ | omega | (simp; done) | (simp; omega)) _)⟩
end Go.Proofs.YtpmcgicopogbhaaGreat
