/- Chapter 24: spans of a chart. Conditions: as stated at each contract. -/
import Derived.Test.YtpmcgicopogbhaaProg
import Derived.Test.YtpmcgicopogbhaaBase
import Derived.Test.YtpmcgicopogbhaaL01
import Derived.Test.YtpmcgicopogbhaaCp
import Derived.Test.YtpmcgicopogbhaaL18
import Derived.Test.YtpmcgicopogbhaaL23
import Derived.Test.YtpmcgicopogbhaaL03
import Derived.Test.YtpmcgicopogbhaaL23d
import Derived.Test.YtpmcgicopogbhaaL23e
import Derived.Test.YtpmcgicopogbhaaL23f
import Derived.Test.YtpmcgicopogbhaaL24
import Derived.Test.YtpmcgicopogbhaaL04
import Derived.Test.YtpmcgicopogbhaaL24b
import Derived.Test.YtpmcgicopogbhaaL24c
import Derived.Test.YtpmcgicopogbhaaL24d
import Derived.WalkKit
import Derived.WalkSpells
import Derived.WalkLawsBesides
import Derived.Lib.Hide
import Derived.Deep.QuietTactic
import Derived.BigQuiet
import Derived.Deep.Draws
import Derived.Deep.RegionHeld3
namespace Go.Proofs.Ytpmcgicopogbhaa
open Go.RowKit
set_option linter.unusedVariables false
def csC (C : Ch) (ud ut vd vt e : Int) : Int := if rqC C ud ut vd vt e = 0 then spC (rqL C ud ut vd vt e) (rqH C ud ut vd vt e) else rqC C ud ut vd vt e
def csV (C : Ch) (ud ut vd vt e x : Int) : Int := if rqC C ud ut vd vt e = 0 then spV (rqL C ud ut vd vt e) (rqH C ud ut vd vt e) x else 0
def cs0 (C : Ch) (ud ut vd vt e : Int) : Int := csV C ud ut vd vt e (atD (nBw (rqL C ud ut vd vt e)))
def cs1 (C : Ch) (ud ut vd vt e : Int) : Int := csV C ud ut vd vt e (atT (nBw (rqL C ud ut vd vt e)))
def cs2 (C : Ch) (ud ut vd vt e : Int) : Int := csV C ud ut vd vt e (atD (nAb (rqH C ud ut vd vt e)))
def cs3 (C : Ch) (ud ut vd vt e : Int) : Int := csV C ud ut vd vt e (atT (nAb (rqH C ud ut vd vt e)))
set_option maxHeartbeats 1000000 in
theorem ChartSpan_S (C : Ch) (A : Option Addr) (c : Nat) (ud ut vd vt e : Int) (hn : C.zs.length ≤ 1048576) (hm : C.nm.size ≤ 1048576) (w : World) (hA : Ints w A C.zs) :
    Calls Try.prog 33 #[.agg #[.int .i64 C.dg, .int .i64 C.tn, .string C.nm, .slice A C.zs.length c, .int .i64 C.wd, .int .i64 C.lf, .int .i64 C.rt], .agg #[.int .i64 ud, .int .i64 ut], .agg #[.int .i64 vd, .int .i64 vt], .int .i64 e] w fun r w' => r = .returned (.tuple #[.agg #[.int .i64 (cs0 C ud ut vd vt e), .int .i64 (cs1 C ud ut vd vt e)], .agg #[.int .i64 (cs2 C ud ut vd vt e), .int .i64 (cs3 C ud ut vd vt e)], .int .i64 (csC C ud ut vd vt e)]) ∧ Below w.heap.size w w' := by
  have HI := Lib.hid hA
  clear hA
  by_cases hk : rqC C ud ut vd vt e = 0
  · have HV := Lib.hid (show csC C ud ut vd vt e = spC (rqL C ud ut vd vt e) (rqH C ud ut vd vt e) ∧ ∀ x, csV C ud ut vd vt e x = spV (rqL C ud ut vd vt e) (rqH C ud ut vd vt e) x by simp [csC, csV, hk])
    have HD := Lib.hid (show cs0 C ud ut vd vt e = csV C ud ut vd vt e (atD (nBw (rqL C ud ut vd vt e))) ∧ cs1 C ud ut vd vt e = csV C ud ut vd vt e (atT (nBw (rqL C ud ut vd vt e))) ∧ cs2 C ud ut vd vt e = csV C ud ut vd vt e (atD (nAb (rqH C ud ut vd vt e))) ∧ cs3 C ud ut vd vt e = csV C ud ut vd vt e (atT (nAb (rqH C ud ut vd vt e))) from ⟨rfl, rfl, rfl, rfl⟩)
    have HK := Lib.hid hk
    clear hk
    go_enter Try.func33, Try.ntmps33
    go_wp2_with fail
    go_at_call 107; refine (ReadChart_S _ _ _ _ _ _ _ _ hn hm _ (by repeat (with_reducible first | exact HI.out | assumption | refine Ints.drew ?_ | refine Ints.drewN _ ?_ | refine Ints.alloc _ ?_ | refine Ints.step (by assumption) ?_))).mono ?_; rintro e w1 ⟨rfl, hb1⟩; obtain ⟨hc1, hf1, hz1⟩ := bel hb1; (try simp only [World.size_drew, World.cell?_drew, World.frozen?_drew] at hc1 hf1 hz1); (try simp only [World.heap_drewN, World.cell?_drewN, World.frozen?_drewN] at hc1 hf1 hz1); (try have hl1 : w.heap.size < w1.heap.size := by (have hq := hb1.size; (try simp at hq); omega)); (try have hm1 : w.heap.size + 1 < w1.heap.size := by (have hq := hb1.size; (try simp at hq); omega)); (try have hn1 : w.heap.size + 1 + 1 < w1.heap.size := by (have hq := hb1.size; (try simp at hq); omega)); (try have hp1 : b < w1.heap.size := by (have hq := hb1.size; (try simp at hq); omega)); (try have ho1 : b' < w1.heap.size := by (have hq := hb1.size; (try simp at hq); omega))
    rw [HK.out]
    have l3 : w.heap.size + 1 + 1 + 1 + 1 < w1.heap.size := by have := hb1.size; simp at this; omega
    have l4 : w.heap.size + 1 + 1 + 1 < w1.heap.size := by omega
    have r0 : w1.cell? ⟨w.heap.size + 1 + 1 + 1, 0, none⟩ = some (.int .i64 0) := by simp [go_sem, *]
    have r1 : w1.cell? ⟨w.heap.size + 1 + 1 + 1, 1, none⟩ = some (.int .i64 0) := by simp [go_sem, *]
    have r2 : w1.cell? ⟨w.heap.size + 1 + 1 + 1 + 1, 0, none⟩ = some (.int .i64 0) := by simp [go_sem, *]
    have r3 : w1.cell? ⟨w.heap.size + 1 + 1 + 1 + 1, 1, none⟩ = some (.int .i64 0) := by simp [go_sem, *]
    have g0 : w1.frozen? ⟨w.heap.size + 1 + 1 + 1, 0, none⟩ = false := by simp [go_sem, *]
    have g1 : w1.frozen? ⟨w.heap.size + 1 + 1 + 1, 1, none⟩ = false := by simp [go_sem, *]
    have g2 : w1.frozen? ⟨w.heap.size + 1 + 1 + 1 + 1, 0, none⟩ = false := by simp [go_sem, *]
    have g3 : w1.frozen? ⟨w.heap.size + 1 + 1 + 1 + 1, 1, none⟩ = false := by simp [go_sem, *]
    have hbel1 : Below w.heap.size w w1 := by repeat (with_reducible first | exact Below.refl _ _ | assumption | refine Bel.alloc ?_ _ | refine Bel.step (by assumption) ?_ | refine Below.drew ?_ | refine Bel.drewN ?_ _ | refine Below.setCell ?_ (by first | exact Nat.le_refl _ | omega | (simp; done) | (simp; omega)) _)
    clear hb1 hc1 hf1 hz1
    go_wp2_with fail
    go_at_call 108; refine (l04Span_c _ _ _).mono ?_; rintro e w2 ⟨rfl, hb2⟩; obtain ⟨hc2, hf2, hz2⟩ := bel hb2; (try simp only [World.size_drew, World.cell?_drew, World.frozen?_drew] at hc2 hf2 hz2); (try simp only [World.heap_drewN, World.cell?_drewN, World.frozen?_drewN] at hc2 hf2 hz2); (try have hl2 : w.heap.size < w2.heap.size := by (have hq := hb2.size; (try simp at hq); omega)); (try have hm2 : w.heap.size + 1 < w2.heap.size := by (have hq := hb2.size; (try simp at hq); omega)); (try have hn2 : w.heap.size + 1 + 1 < w2.heap.size := by (have hq := hb2.size; (try simp at hq); omega)); (try have hp2 : b < w2.heap.size := by (have hq := hb2.size; (try simp at hq); omega)); (try have ho2 : b' < w2.heap.size := by (have hq := hb2.size; (try simp at hq); omega))
    have l5 : w.heap.size + 1 + 1 + 1 + 1 < w2.heap.size := by have := hb2.size; simp at this; omega
    have l6 : w.heap.size + 1 + 1 + 1 < w2.heap.size := by omega
    generalize rqL C ud ut vd vt e = a at *
    generalize rqH C ud ut vd vt e = b at *
    go_wp2
    refine bodyPost_ret (v := .tuple #[.agg #[.int .i64 (spV a b (atD (nBw a))), .int .i64 (spV a b (atT (nBw a)))], .agg #[.int .i64 (spV a b (atD (nAb b))), .int .i64 (spV a b (atT (nAb b)))], .int .i64 (spC a b)]) (by simp [results, Try.results33, go_sem, *]) rfl ⟨by rw [HD.out.1, HD.out.2.1, HD.out.2.2.1, HD.out.2.2.2, HV.out.1, HV.out.2, HV.out.2, HV.out.2, HV.out.2], by repeat (with_reducible first | exact Below.refl _ _ | assumption | refine Bel.alloc ?_ _ | refine Bel.step (by assumption) ?_ | refine Below.drew ?_ | refine Bel.drewN ?_ _ | refine Below.setCell ?_ (by first | exact Nat.le_refl _ | omega | (simp; done) | (simp; omega)) _)⟩
  · have HV := Lib.hid (show csC C ud ut vd vt e = rqC C ud ut vd vt e ∧ cs0 C ud ut vd vt e = 0 ∧ cs1 C ud ut vd vt e = 0 ∧ cs2 C ud ut vd vt e = 0 ∧ cs3 C ud ut vd vt e = 0 by simp [csC, csV, cs0, cs1, cs2, cs3, hk])
    have b1 : (rqC C ud ut vd vt e != 0) = true := by simpa using hk
    clear hk
    go_enter Try.func33, Try.ntmps33
    go_wp2_with fail
    go_at_call 107; refine (ReadChart_S _ _ _ _ _ _ _ _ hn hm _ (by repeat (with_reducible first | exact HI.out | assumption | refine Ints.drew ?_ | refine Ints.drewN _ ?_ | refine Ints.alloc _ ?_ | refine Ints.step (by assumption) ?_))).mono ?_; rintro e w1 ⟨rfl, hb1⟩; obtain ⟨hc1, hf1, hz1⟩ := bel hb1; (try simp only [World.size_drew, World.cell?_drew, World.frozen?_drew] at hc1 hf1 hz1); (try simp only [World.heap_drewN, World.cell?_drewN, World.frozen?_drewN] at hc1 hf1 hz1); (try have hl1 : w.heap.size < w1.heap.size := by (have hq := hb1.size; (try simp at hq); omega)); (try have hm1 : w.heap.size + 1 < w1.heap.size := by (have hq := hb1.size; (try simp at hq); omega)); (try have hn1 : w.heap.size + 1 + 1 < w1.heap.size := by (have hq := hb1.size; (try simp at hq); omega)); (try have hp1 : b < w1.heap.size := by (have hq := hb1.size; (try simp at hq); omega)); (try have ho1 : b' < w1.heap.size := by (have hq := hb1.size; (try simp at hq); omega))
    have l3 : w.heap.size + 1 + 1 + 1 + 1 < w1.heap.size := by have := hb1.size; simp at this; omega
    have l4 : w.heap.size + 1 + 1 + 1 < w1.heap.size := by omega
    go_wp2
    refine bodyPost_ret (v := .tuple #[.agg #[.int .i64 0, .int .i64 0], .agg #[.int .i64 0, .int .i64 0], .int .i64 (rqC C ud ut vd vt e)]) (by simp [results, Try.results33, go_sem, *]) rfl ⟨by rw [HV.out.1, HV.out.2.1, HV.out.2.2.1, HV.out.2.2.2.1, HV.out.2.2.2.2], by repeat (with_reducible first | exact Below.refl _ _ | assumption | refine Bel.alloc ?_ _ | refine Bel.step (by assumption) ?_ | refine Below.drew ?_ | refine Bel.drewN ?_ _ | refine Below.setCell ?_ (by first | exact Nat.le_refl _ | omega | (simp; done) | (simp; omega)) _)⟩
set_option maxHeartbeats 1000000 in
theorem ChartSpan_I (C : Ch) (A : Option Addr) (c : Nat) (ud ut vd vt e : Int) (hn : C.zs.length ≤ 1048576) (hm : C.nm.size ≤ 1048576) (w : World) (hA : Ints w A C.zs) :
    Calls Try.prog 32 #[.agg #[.int .i64 C.dg, .int .i64 C.tn, .string C.nm, .slice A C.zs.length c, .int .i64 C.wd, .int .i64 C.lf, .int .i64 C.rt], .agg #[.int .i64 ud, .int .i64 ut], .agg #[.int .i64 vd, .int .i64 vt], .int .i64 e] w fun r w' => r = .returned (.tuple #[.agg #[.int .i64 (cs0 C ud ut vd vt e), .int .i64 (cs1 C ud ut vd vt e)], .agg #[.int .i64 (cs2 C ud ut vd vt e), .int .i64 (cs3 C ud ut vd vt e)], .int .i64 (csC C ud ut vd vt e)]) ∧ Below w.heap.size w w' := by
  have HI := Lib.hid hA
  clear hA
  by_cases hk : rqC C ud ut vd vt e = 0
  · have HV := Lib.hid (show csC C ud ut vd vt e = spC (rqL C ud ut vd vt e) (rqH C ud ut vd vt e) ∧ ∀ x, csV C ud ut vd vt e x = spV (rqL C ud ut vd vt e) (rqH C ud ut vd vt e) x by simp [csC, csV, hk])
    have HD := Lib.hid (show cs0 C ud ut vd vt e = csV C ud ut vd vt e (atD (nBw (rqL C ud ut vd vt e))) ∧ cs1 C ud ut vd vt e = csV C ud ut vd vt e (atT (nBw (rqL C ud ut vd vt e))) ∧ cs2 C ud ut vd vt e = csV C ud ut vd vt e (atD (nAb (rqH C ud ut vd vt e))) ∧ cs3 C ud ut vd vt e = csV C ud ut vd vt e (atT (nAb (rqH C ud ut vd vt e))) from ⟨rfl, rfl, rfl, rfl⟩)
    have HK := Lib.hid hk
    clear hk
    go_enter Try.func32, Try.ntmps32
    go_wp2_with fail
    go_at_call 14; refine (ReadChart_I _ _ _ _ _ _ _ _ hn hm _ (by repeat (with_reducible first | exact HI.out | assumption | refine Ints.drew ?_ | refine Ints.drewN _ ?_ | refine Ints.alloc _ ?_ | refine Ints.step (by assumption) ?_))).mono ?_; rintro e w1 ⟨rfl, hb1⟩; obtain ⟨hc1, hf1, hz1⟩ := bel hb1; (try simp only [World.size_drew, World.cell?_drew, World.frozen?_drew] at hc1 hf1 hz1); (try simp only [World.heap_drewN, World.cell?_drewN, World.frozen?_drewN] at hc1 hf1 hz1); (try have hl1 : w.heap.size < w1.heap.size := by (have hq := hb1.size; (try simp at hq); omega)); (try have hm1 : w.heap.size + 1 < w1.heap.size := by (have hq := hb1.size; (try simp at hq); omega)); (try have hn1 : w.heap.size + 1 + 1 < w1.heap.size := by (have hq := hb1.size; (try simp at hq); omega)); (try have hp1 : b < w1.heap.size := by (have hq := hb1.size; (try simp at hq); omega)); (try have ho1 : b' < w1.heap.size := by (have hq := hb1.size; (try simp at hq); omega))
    rw [HK.out]
    have l3 : w.heap.size + 1 + 1 + 1 + 1 < w1.heap.size := by have := hb1.size; simp at this; omega
    have l4 : w.heap.size + 1 + 1 + 1 < w1.heap.size := by omega
    have r0 : w1.cell? ⟨w.heap.size + 1 + 1 + 1, 0, none⟩ = some (.int .i64 0) := by simp [go_sem, *]
    have r1 : w1.cell? ⟨w.heap.size + 1 + 1 + 1, 1, none⟩ = some (.int .i64 0) := by simp [go_sem, *]
    have r2 : w1.cell? ⟨w.heap.size + 1 + 1 + 1 + 1, 0, none⟩ = some (.int .i64 0) := by simp [go_sem, *]
    have r3 : w1.cell? ⟨w.heap.size + 1 + 1 + 1 + 1, 1, none⟩ = some (.int .i64 0) := by simp [go_sem, *]
    have g0 : w1.frozen? ⟨w.heap.size + 1 + 1 + 1, 0, none⟩ = false := by simp [go_sem, *]
    have g1 : w1.frozen? ⟨w.heap.size + 1 + 1 + 1, 1, none⟩ = false := by simp [go_sem, *]
    have g2 : w1.frozen? ⟨w.heap.size + 1 + 1 + 1 + 1, 0, none⟩ = false := by simp [go_sem, *]
    have g3 : w1.frozen? ⟨w.heap.size + 1 + 1 + 1 + 1, 1, none⟩ = false := by simp [go_sem, *]
    have hbel1 : Below w.heap.size w w1 := by repeat (with_reducible first | exact Below.refl _ _ | assumption | refine Bel.alloc ?_ _ | refine Bel.step (by assumption) ?_ | refine Below.drew ?_ | refine Bel.drewN ?_ _ | refine Below.setCell ?_ (by first | exact Nat.le_refl _ | omega | (simp; done) | (simp; omega)) _)
    clear hb1 hc1 hf1 hz1
    go_wp2_with fail
    go_at_call 106; refine (spanOf_c _ _ _).mono ?_; rintro e w2 ⟨rfl, hb2⟩; obtain ⟨hc2, hf2, hz2⟩ := bel hb2; (try simp only [World.size_drew, World.cell?_drew, World.frozen?_drew] at hc2 hf2 hz2); (try simp only [World.heap_drewN, World.cell?_drewN, World.frozen?_drewN] at hc2 hf2 hz2); (try have hl2 : w.heap.size < w2.heap.size := by (have hq := hb2.size; (try simp at hq); omega)); (try have hm2 : w.heap.size + 1 < w2.heap.size := by (have hq := hb2.size; (try simp at hq); omega)); (try have hn2 : w.heap.size + 1 + 1 < w2.heap.size := by (have hq := hb2.size; (try simp at hq); omega)); (try have hp2 : b < w2.heap.size := by (have hq := hb2.size; (try simp at hq); omega)); (try have ho2 : b' < w2.heap.size := by (have hq := hb2.size; (try simp at hq); omega))
    have l5 : w.heap.size + 1 + 1 + 1 + 1 < w2.heap.size := by have := hb2.size; simp at this; omega
    have l6 : w.heap.size + 1 + 1 + 1 < w2.heap.size := by omega
    generalize rqL C ud ut vd vt e = a at *
    generalize rqH C ud ut vd vt e = b at *
    go_wp2
    refine bodyPost_ret (v := .tuple #[.agg #[.int .i64 (spV a b (atD (nBw a))), .int .i64 (spV a b (atT (nBw a)))], .agg #[.int .i64 (spV a b (atD (nAb b))), .int .i64 (spV a b (atT (nAb b)))], .int .i64 (spC a b)]) (by simp [results, Try.results32, go_sem, *]) rfl ⟨by rw [HD.out.1, HD.out.2.1, HD.out.2.2.1, HD.out.2.2.2, HV.out.1, HV.out.2, HV.out.2, HV.out.2, HV.out.2], by repeat (with_reducible first | exact Below.refl _ _ | assumption | refine Bel.alloc ?_ _ | refine Bel.step (by assumption) ?_ | refine Below.drew ?_ | refine Bel.drewN ?_ _ | refine Below.setCell ?_ (by first | exact Nat.le_refl _ | omega | (simp; done) | (simp; omega)) _)⟩
  · have HV := Lib.hid (show csC C ud ut vd vt e = rqC C ud ut vd vt e ∧ cs0 C ud ut vd vt e = 0 ∧ cs1 C ud ut vd vt e = 0 ∧ cs2 C ud ut vd vt e = 0 ∧ cs3 C ud ut vd vt e = 0 by simp [csC, csV, cs0, cs1, cs2, cs3, hk])
    have b1 : (rqC C ud ut vd vt e != 0) = true := by simpa using hk
    clear hk
    go_enter Try.func32, Try.ntmps32
    go_wp2_with fail
    go_at_call 14; refine (ReadChart_I _ _ _ _ _ _ _ _ hn hm _ (by repeat (with_reducible first | exact HI.out | assumption | refine Ints.drew ?_ | refine Ints.drewN _ ?_ | refine Ints.alloc _ ?_ | refine Ints.step (by assumption) ?_))).mono ?_; rintro e w1 ⟨rfl, hb1⟩; obtain ⟨hc1, hf1, hz1⟩ := bel hb1; (try simp only [World.size_drew, World.cell?_drew, World.frozen?_drew] at hc1 hf1 hz1); (try simp only [World.heap_drewN, World.cell?_drewN, World.frozen?_drewN] at hc1 hf1 hz1); (try have hl1 : w.heap.size < w1.heap.size := by (have hq := hb1.size; (try simp at hq); omega)); (try have hm1 : w.heap.size + 1 < w1.heap.size := by (have hq := hb1.size; (try simp at hq); omega)); (try have hn1 : w.heap.size + 1 + 1 < w1.heap.size := by (have hq := hb1.size; (try simp at hq); omega)); (try have hp1 : b < w1.heap.size := by (have hq := hb1.size; (try simp at hq); omega)); (try have ho1 : b' < w1.heap.size := by (have hq := hb1.size; (try simp at hq); omega))
    have l3 : w.heap.size + 1 + 1 + 1 + 1 < w1.heap.size := by have := hb1.size; simp at this; omega
    have l4 : w.heap.size + 1 + 1 + 1 < w1.heap.size := by omega
    go_wp2
    refine bodyPost_ret (v := .tuple #[.agg #[.int .i64 0, .int .i64 0], .agg #[.int .i64 0, .int .i64 0], .int .i64 (rqC C ud ut vd vt e)]) (by simp [results, Try.results32, go_sem, *]) rfl ⟨by rw [HV.out.1, HV.out.2.1, HV.out.2.2.1, HV.out.2.2.2.1, HV.out.2.2.2.2], by repeat (with_reducible first | exact Below.refl _ _ | assumption | refine Bel.alloc ?_ _ | refine Bel.step (by assumption) ?_ | refine Below.drew ?_ | refine Bel.drewN ?_ _ | refine Below.setCell ?_ (by first | exact Nat.le_refl _ | omega | (simp; done) | (simp; omega)) _)⟩
end Go.Proofs.Ytpmcgicopogbhaa
