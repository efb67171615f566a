/- Chapter 24: readings of a chart, with the codes. Conditions: as stated at each contract. -/
import Derived.Test.YtpmcgicopogbhaaProg
import Derived.Test.YtpmcgicopogbhaaBase
import Derived.Test.YtpmcgicopogbhaaL01
import Derived.Test.YtpmcgicopogbhaaCp
import Derived.Test.YtpmcgicopogbhaaL18
import Derived.Test.YtpmcgicopogbhaaL23
import Derived.Test.YtpmcgicopogbhaaL03
import Derived.Test.YtpmcgicopogbhaaL23d
import Derived.Test.YtpmcgicopogbhaaL23e
import Derived.Test.YtpmcgicopogbhaaL23f
import Derived.Test.YtpmcgicopogbhaaL24
import Derived.Test.YtpmcgicopogbhaaL24b
import Derived.Test.YtpmcgicopogbhaaL24c
import Derived.WalkKit
import Derived.WalkSpells
import Derived.WalkLawsBesides
import Derived.Lib.Hide
import Derived.Deep.QuietTactic
import Derived.BigQuiet
import Derived.Deep.Draws
import Derived.Deep.RegionHeld3
namespace Go.Proofs.Ytpmcgicopogbhaa
open Go.RowKit
set_option linter.unusedVariables false
def rqC (C : Ch) (ud ut vd vt e : Int) : Int := if clC C e (okF ud ut && okF vd vt) = 0 then lhC C ud ut vd vt else clC C e (okF ud ut && okF vd vt)
def rqL (C : Ch) (ud ut vd vt e : Int) : Int := if clC C e (okF ud ut && okF vd vt) = 0 then rdL C ud ut vd vt e else 0
def rqH (C : Ch) (ud ut vd vt e : Int) : Int := if clC C e (okF ud ut && okF vd vt) = 0 then rdH C ud ut vd vt e else 0
theorem rq_0 {C : Ch} {ud ut vd vt e : Int} (h : clC C e (okF ud ut && okF vd vt) = 0) : rqC C ud ut vd vt e = lhC C ud ut vd vt ∧ rqL C ud ut vd vt e = rdL C ud ut vd vt e ∧ rqH C ud ut vd vt e = rdH C ud ut vd vt e := by simp [rqC, rqL, rqH, h]
theorem rq_no {C : Ch} {ud ut vd vt e : Int} (h : clC C e (okF ud ut && okF vd vt) ≠ 0) : rqC C ud ut vd vt e = clC C e (okF ud ut && okF vd vt) ∧ rqL C ud ut vd vt e = 0 ∧ rqH C ud ut vd vt e = 0 := by simp [rqC, rqL, rqH, h]
theorem clC_e {C : Ch} {ud ut vd vt e : Int} (h : clC C e (okF ud ut && okF vd vt) = 0) : okCh C = true ∧ okF ud ut = true ∧ okF vd vt = true ∧ 0 ≤ e ∧ e ≤ 200 := by
  obtain ⟨h1, h2, h3⟩ := clC_0 h
  simp only [Bool.and_eq_true] at h2
  have := inB_iff.1 h3
  exact ⟨h1, h2.1, h2.2, this.1, this.2⟩
theorem ReadChart_S (C : Ch) (A : Option Addr) (c : Nat) (ud ut vd vt e : Int) (hn : C.zs.length ≤ 1048576) (hm : C.nm.size ≤ 1048576) (w : World) (hA : Ints w A C.zs) :
    Calls Try.prog 107 #[.agg #[.int .i64 C.dg, .int .i64 C.tn, .string C.nm, .slice A C.zs.length c, .int .i64 C.wd, .int .i64 C.lf, .int .i64 C.rt], .agg #[.int .i64 ud, .int .i64 ut], .agg #[.int .i64 vd, .int .i64 vt], .int .i64 e] w fun r w' => r = .returned (.tuple #[.agg #[.int .i64 (rqL C ud ut vd vt e), .int .i64 (rqH C ud ut vd vt e)], .int .i64 (rqC C ud ut vd vt e)]) ∧ Below w.heap.size w w' := by
  by_cases hk : clC C e (okF ud ut && okF vd vt) = 0
  · have HQ := Lib.hid (rq_0 hk)
    obtain ⟨h, hu, hv, h1, h2⟩ := clC_e hk
    have HK := Lib.hid hk
    clear hk
    go_enter Try.func107, Try.ntmps107
    go_wp2_with fail
    go_at_call 109; refine (l24Code_c _ _ _ _ _ _ _ _ hn hm _ (Ints.alloc _ (Ints.alloc _ (Ints.alloc _ (Ints.alloc _ hA))))).mono ?_; rintro e w1 ⟨rfl, hb1⟩; obtain ⟨hc1, hf1, hz1⟩ := bel hb1; (try simp only [World.size_drew, World.cell?_drew, World.frozen?_drew] at hc1 hf1 hz1); (try simp only [World.heap_drewN, World.cell?_drewN, World.frozen?_drewN] at hc1 hf1 hz1); (try have hl1 : w.heap.size < w1.heap.size := by (have hq := hb1.size; (try simp at hq); omega)); (try have hm1 : w.heap.size + 1 < w1.heap.size := by (have hq := hb1.size; (try simp at hq); omega)); (try have hn1 : w.heap.size + 1 + 1 < w1.heap.size := by (have hq := hb1.size; (try simp at hq); omega)); (try have hp1 : b < w1.heap.size := by (have hq := hb1.size; (try simp at hq); omega)); (try have ho1 : b' < w1.heap.size := by (have hq := hb1.size; (try simp at hq); omega))
    rw [HK.out]
    go_wp2_with fail
    go_at_call 116; refine (l24Read_c _ _ _ _ _ _ _ _ hn hm h hu hv h1 h2 _ (Ints.step hb1 (Ints.alloc _ (Ints.alloc _ (Ints.alloc _ (Ints.alloc _ hA)))))).mono ?_; rintro e w2 ⟨rfl, hb2⟩; obtain ⟨hc2, hf2, hz2⟩ := bel hb2; (try simp only [World.size_drew, World.cell?_drew, World.frozen?_drew] at hc2 hf2 hz2); (try simp only [World.heap_drewN, World.cell?_drewN, World.frozen?_drewN] at hc2 hf2 hz2); (try have hl2 : w.heap.size < w2.heap.size := by (have hq := hb2.size; (try simp at hq); omega)); (try have hm2 : w.heap.size + 1 < w2.heap.size := by (have hq := hb2.size; (try simp at hq); omega)); (try have hn2 : w.heap.size + 1 + 1 < w2.heap.size := by (have hq := hb2.size; (try simp at hq); omega)); (try have hp2 : b < w2.heap.size := by (have hq := hb2.size; (try simp at hq); omega)); (try have ho2 : b' < w2.heap.size := by (have hq := hb2.size; (try simp at hq); omega))
    have l3 : w.heap.size + 1 + 1 + 1 < w1.heap.size := by have := hb1.size; simp at this; omega
    go_wp2
    refine bodyPost_ret (v := .tuple #[.agg #[.int .i64 (rdL C ud ut vd vt e), .int .i64 (rdH C ud ut vd vt e)], .int .i64 (lhC C ud ut vd vt)]) (by simp [results, Try.results107, go_sem, *]) rfl ⟨by rw [HQ.out.1, HQ.out.2.1, HQ.out.2.2], by repeat (with_reducible first | exact Below.refl _ _ | assumption | refine Bel.alloc ?_ _ | refine Bel.step (by assumption) ?_ | refine Below.drew ?_ | refine Bel.drewN ?_ _ | refine Below.setCell ?_ (by first | exact Nat.le_refl _ | omega | (simp; done) | (simp; omega)) _)⟩
  · have HQ := Lib.hid (rq_no hk)
    have b1 : (clC C e (okF ud ut && okF vd vt) != 0) = true := by simpa using hk
    clear hk
    go_enter Try.func107, Try.ntmps107
    go_wp2_with fail
    go_at_call 109; refine (l24Code_c _ _ _ _ _ _ _ _ hn hm _ (Ints.alloc _ (Ints.alloc _ (Ints.alloc _ (Ints.alloc _ hA))))).mono ?_; rintro e w1 ⟨rfl, hb1⟩; obtain ⟨hc1, hf1, hz1⟩ := bel hb1; (try simp only [World.size_drew, World.cell?_drew, World.frozen?_drew] at hc1 hf1 hz1); (try simp only [World.heap_drewN, World.cell?_drewN, World.frozen?_drewN] at hc1 hf1 hz1); (try have hl1 : w.heap.size < w1.heap.size := by (have hq := hb1.size; (try simp at hq); omega)); (try have hm1 : w.heap.size + 1 < w1.heap.size := by (have hq := hb1.size; (try simp at hq); omega)); (try have hn1 : w.heap.size + 1 + 1 < w1.heap.size := by (have hq := hb1.size; (try simp at hq); omega)); (try have hp1 : b < w1.heap.size := by (have hq := hb1.size; (try simp at hq); omega)); (try have ho1 : b' < w1.heap.size := by (have hq := hb1.size; (try simp at hq); omega))
    have l3 : w.heap.size + 1 + 1 + 1 < w1.heap.size := by have := hb1.size; simp at this; omega
    go_wp2
    refine bodyPost_ret (v := .tuple #[.agg #[.int .i64 0, .int .i64 0], .int .i64 (clC C e (okF ud ut && okF vd vt))]) (by simp [results, Try.results107, go_sem, *]) rfl ⟨by rw [HQ.out.1, HQ.out.2.1, HQ.out.2.2], by repeat (with_reducible first | exact Below.refl _ _ | assumption | refine Bel.alloc ?_ _ | refine Bel.step (by assumption) ?_ | refine Below.drew ?_ | refine Bel.drewN ?_ _ | refine Below.setCell ?_ (by first | exact Nat.le_refl _ | omega | (simp; done) | (simp; omega)) _)⟩
theorem ReadChart_I (C : Ch) (A : Option Addr) (c : Nat) (ud ut vd vt e : Int) (hn : C.zs.length ≤ 1048576) (hm : C.nm.size ≤ 1048576) (w : World) (hA : Ints w A C.zs) :
    Calls Try.prog 14 #[.agg #[.int .i64 C.dg, .int .i64 C.tn, .string C.nm, .slice A C.zs.length c, .int .i64 C.wd, .int .i64 C.lf, .int .i64 C.rt], .agg #[.int .i64 ud, .int .i64 ut], .agg #[.int .i64 vd, .int .i64 vt], .int .i64 e] w fun r w' => r = .returned (.tuple #[.agg #[.int .i64 (rqL C ud ut vd vt e), .int .i64 (rqH C ud ut vd vt e)], .int .i64 (rqC C ud ut vd vt e)]) ∧ Below w.heap.size w w' := by
  have hP := Prs.mk2 ((((w.alloc (.cells #[.int .i64 C.dg, .int .i64 C.tn, .string C.nm, .slice A C.zs.length c, .int .i64 C.wd, .int .i64 C.lf, .int .i64 C.rt] 30)).alloc (.cells #[.int .i64 ud, .int .i64 ut] 25)).alloc (.cells #[.int .i64 vd, .int .i64 vt] 25)).alloc (.cells #[.int .i64 0, .int .i64 0] 39)) 25 ud ut vd vt
  simp only [World.size_alloc] at hP
  by_cases hk : clC C e (okF ud ut && okF vd vt) = 0
  · have HQ := Lib.hid (rq_0 hk)
    obtain ⟨h, hu, hv, h1, h2⟩ := clC_e hk
    have HK := Lib.hid hk
    clear hk
    go_enter Try.func14, Try.ntmps14
    go_wp2_with fail
    go_at_call 78; refine (checkLine_c C A c e _ 2 [(ud, ut), (vd, vt)] hn hm (by simp) _ (Ints.alloc _ (Ints.alloc _ (Ints.alloc _ (Ints.alloc _ (Ints.alloc _ hA))))) hP).mono ?_; rintro e w1 ⟨rfl, hb1⟩; obtain ⟨hc1, hf1, hz1⟩ := bel hb1; (try simp only [World.size_drew, World.cell?_drew, World.frozen?_drew] at hc1 hf1 hz1); (try simp only [World.heap_drewN, World.cell?_drewN, World.frozen?_drewN] at hc1 hf1 hz1); (try have hl1 : w.heap.size < w1.heap.size := by (have hq := hb1.size; (try simp at hq); omega)); (try have hm1 : w.heap.size + 1 < w1.heap.size := by (have hq := hb1.size; (try simp at hq); omega)); (try have hn1 : w.heap.size + 1 + 1 < w1.heap.size := by (have hq := hb1.size; (try simp at hq); omega)); (try have hp1 : b < w1.heap.size := by (have hq := hb1.size; (try simp at hq); omega)); (try have ho1 : b' < w1.heap.size := by (have hq := hb1.size; (try simp at hq); omega))
    rw [okFs_two, HK.out]
    go_wp2_with fail
    go_at_call 79; refine (readChart_c _ _ _ _ _ _ _ _ hn hm h hu hv h1 h2 _ (Ints.step hb1 (Ints.alloc _ (Ints.alloc _ (Ints.alloc _ (Ints.alloc _ (Ints.alloc _ hA))))))).mono ?_; rintro e w2 ⟨rfl, hb2⟩; obtain ⟨hc2, hf2, hz2⟩ := bel hb2; (try simp only [World.size_drew, World.cell?_drew, World.frozen?_drew] at hc2 hf2 hz2); (try simp only [World.heap_drewN, World.cell?_drewN, World.frozen?_drewN] at hc2 hf2 hz2); (try have hl2 : w.heap.size < w2.heap.size := by (have hq := hb2.size; (try simp at hq); omega)); (try have hm2 : w.heap.size + 1 < w2.heap.size := by (have hq := hb2.size; (try simp at hq); omega)); (try have hn2 : w.heap.size + 1 + 1 < w2.heap.size := by (have hq := hb2.size; (try simp at hq); omega)); (try have hp2 : b < w2.heap.size := by (have hq := hb2.size; (try simp at hq); omega)); (try have ho2 : b' < w2.heap.size := by (have hq := hb2.size; (try simp at hq); omega))
    have l3 : w.heap.size + 1 + 1 + 1 < w1.heap.size := by have := hb1.size; simp at this; omega
    go_wp2
    refine bodyPost_ret (v := .tuple #[.agg #[.int .i64 (rdL C ud ut vd vt e), .int .i64 (rdH C ud ut vd vt e)], .int .i64 (lhC C ud ut vd vt)]) (by simp [results, Try.results14, go_sem, *]) rfl ⟨by rw [HQ.out.1, HQ.out.2.1, HQ.out.2.2], by repeat (with_reducible first | exact Below.refl _ _ | assumption | refine Bel.alloc ?_ _ | refine Bel.step (by assumption) ?_ | refine Below.drew ?_ | refine Bel.drewN ?_ _ | refine Below.setCell ?_ (by first | exact Nat.le_refl _ | omega | (simp; done) | (simp; omega)) _)⟩
  · have HQ := Lib.hid (rq_no hk)
    have b1 : (clC C e (okF ud ut && okF vd vt) != 0) = true := by simpa using hk
    clear hk
    go_enter Try.func14, Try.ntmps14
    go_wp2_with fail
    go_at_call 78; refine (checkLine_c C A c e _ 2 [(ud, ut), (vd, vt)] hn hm (by simp) _ (Ints.alloc _ (Ints.alloc _ (Ints.alloc _ (Ints.alloc _ (Ints.alloc _ hA))))) hP).mono ?_; rintro e w1 ⟨rfl, hb1⟩; obtain ⟨hc1, hf1, hz1⟩ := bel hb1; (try simp only [World.size_drew, World.cell?_drew, World.frozen?_drew] at hc1 hf1 hz1); (try simp only [World.heap_drewN, World.cell?_drewN, World.frozen?_drewN] at hc1 hf1 hz1); (try have hl1 : w.heap.size < w1.heap.size := by (have hq := hb1.size; (try simp at hq); omega)); (try have hm1 : w.heap.size + 1 < w1.heap.size := by (have hq := hb1.size; (try simp at hq); omega)); (try have hn1 : w.heap.size + 1 + 1 < w1.heap.size := by (have hq := hb1.size; (try simp at hq); omega)); (try have hp1 : b < w1.heap.size := by (have hq := hb1.size; (try simp at hq); omega)); (try have ho1 : b' < w1.heap.size := by (have hq := hb1.size; (try simp at hq); omega))
    rw [okFs_two]
    have l3 : w.heap.size + 1 + 1 + 1 < w1.heap.size := by have := hb1.size; simp at this; omega
    go_wp2
    refine bodyPost_ret (v := .tuple #[.agg #[.int .i64 0, .int .i64 0], .int .i64 (clC C e (okF ud ut && okF vd vt))]) (by simp [results, Try.results14, go_sem, *]) rfl ⟨by rw [HQ.out.1, HQ.out.2.1, HQ.out.2.2], by repeat (with_reducible first | exact Below.refl _ _ | assumption | refine Bel.alloc ?_ _ | refine Bel.step (by assumption) ?_ | refine Below.drew ?_ | refine Bel.drewN ?_ _ | refine Below.setCell ?_ (by first | exact Nat.le_refl _ | omega | (simp; done) | (simp; omega)) _)⟩
theorem rq_00 {C : Ch} {ud ut vd vt e : Int} (h : rqC C ud ut vd vt e = 0) : clC C e (okF ud ut && okF vd vt) = 0 ∧ lhC C ud ut vd vt = 0 := by
  by_cases hk : clC C e (okF ud ut && okF vd vt) = 0
  · rw [(rq_0 hk).1] at h
    exact ⟨hk, h⟩
  · rw [(rq_no hk).1] at h
    exact absurd h hk
theorem rq_z {C : Ch} {ud ut vd vt e : Int} (h : rqC C ud ut vd vt e ≠ 0) : rqL C ud ut vd vt e = 0 ∧ rqH C ud ut vd vt e = 0 := by
  by_cases hk : clC C e (okF ud ut && okF vd vt) = 0
  · obtain ⟨e1, e2, e3⟩ := rq_0 hk
    rw [e1] at h
    obtain ⟨_, e4, e5, _⟩ := rd_3 (e := e) h
    rw [e2, e3]; exact ⟨e4, e5⟩
  · exact (rq_no hk).2
end Go.Proofs.Ytpmcgicopogbhaa
