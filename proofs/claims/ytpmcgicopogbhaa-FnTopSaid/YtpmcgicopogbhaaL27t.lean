/- Chapter 27: a test of a pair. Conditions: as stated at each contract. -/
import Derived.Test.YtpmcgicopogbhaaProg
import Derived.Test.YtpmcgicopogbhaaBase
import Derived.Test.YtpmcgicopogbhaaRw
import Derived.Test.YtpmcgicopogbhaaRg
import Derived.Test.YtpmcgicopogbhaaL01
import Derived.Test.YtpmcgicopogbhaaCp
import Derived.Test.YtpmcgicopogbhaaL18
import Derived.Test.YtpmcgicopogbhaaL23
import Derived.Test.YtpmcgicopogbhaaL03
import Derived.Test.YtpmcgicopogbhaaL04
import Derived.Test.YtpmcgicopogbhaaL23d
import Derived.Test.YtpmcgicopogbhaaL23e
import Derived.Test.YtpmcgicopogbhaaL23f
import Derived.Test.YtpmcgicopogbhaaL24
import Derived.Test.YtpmcgicopogbhaaL24b
import Derived.Test.YtpmcgicopogbhaaL24c
import Derived.Test.YtpmcgicopogbhaaL24d
import Derived.Test.YtpmcgicopogbhaaL24f
import Derived.Test.YtpmcgicopogbhaaL24g
import Derived.Test.YtpmcgicopogbhaaL24r
import Derived.Test.YtpmcgicopogbhaaL23g
import Derived.Test.YtpmcgicopogbhaaL23h
import Derived.Test.YtpmcgicopogbhaaL27o
import Derived.Test.YtpmcgicopogbhaaL27a
import Derived.Test.YtpmcgicopogbhaaL27b
import Derived.Test.YtpmcgicopogbhaaL27c
import Derived.Test.YtpmcgicopogbhaaL27m
import Derived.WalkKit
import Derived.WalkSpells
import Derived.WalkLawsBesides
import Derived.Lib.Hide
import Derived.Deep.QuietTactic
import Derived.BigQuiet
import Derived.Deep.Draws
import Derived.Deep.RegionHeld3
import Derived.Deep.Cut
namespace Go.Proofs.Ytpmcgicopogbhaa
open Go.RowKit
set_option linter.unusedVariables false
/-- The code of a test. -/
def tpC (R : Re) (ud ut vd vt : Int) : Int := if pkC R ud ut vd vt = 0 then (if cvR R ud ut vd vt = true then 0 else 5) else pkC R ud ut vd vt
def tpB (R : Re) (ud ut vd vt : Int) : Bool := decide (tpC R ud ut vd vt = 0) && decide (reX R.ch ud ut vd vt R.ey ≤ R.bo)
theorem tp_no {R : Re} {ud ut vd vt : Int} (h : pkC R ud ut vd vt ≠ 0) : tpC R ud ut vd vt = pkC R ud ut vd vt ∧ tpB R ud ut vd vt = false := by simp [tpB, tpC, h]
theorem tp_five {R : Re} {ud ut vd vt : Int} (h : pkC R ud ut vd vt = 0) (hc : cvR R ud ut vd vt = false) : tpC R ud ut vd vt = 5 ∧ tpB R ud ut vd vt = false := by simp [tpB, tpC, h, hc]
theorem tp_0 {R : Re} {ud ut vd vt : Int} (h : pkC R ud ut vd vt = 0) (hc : cvR R ud ut vd vt = true) : tpC R ud ut vd vt = 0 ∧ tpB R ud ut vd vt = decide (reX R.ch ud ut vd vt R.ey ≤ R.bo) := by simp [tpB, tpC, h, hc]
theorem cov_rr {R : Re} {ud ut vd vt : Int} (h : okRe R = true) (hu : okF ud ut = true) (hv : okF vd vt = true) (hc : cvR R ud ut vd vt = true) : rqC R.ch ud ut vd vt R.ey = 0 ∧ rrV R.ch ud ut vd vt R.ey = reX R.ch ud ut vd vt R.ey ∧ lhC R.ch ud ut vd vt = 0 ∧ reV R.ch ud ut vd vt R.ey = reX R.ch ud ut vd vt R.ey := by
  have l := cov_lh h hu hv hc
  obtain ⟨k, _, _, _, _, e, _⟩ := okRe_iff h
  have hk : clC R.ch R.ey (okF ud ut && okF vd vt) = 0 := by simp [clC, k, hu, hv, e]
  have hq : rqC R.ch ud ut vd vt R.ey = 0 := by rw [(rq_0 hk).1]; exact l
  exact ⟨hq, by simp [rrV, hq], l, by simp [reV, l]⟩
set_option maxRecDepth 50000 in
set_option maxHeartbeats 2000000 in
theorem TestPair_S (R : Re) (A : Option Addr) (c : Nat) (ud ut vd vt : Int) (hn : R.ch.zs.length ≤ 1048576) (hm : R.ch.nm.size ≤ 1048576) (w : World) (hA : Ints w A R.ch.zs) :
    Calls Try.prog 11 #[.agg #[.int .i64 R.ch.dg, .int .i64 R.ch.tn, .string R.ch.nm, .slice A R.ch.zs.length c, .int .i64 R.ch.wd, .int .i64 R.ch.lf, .int .i64 R.ch.rt, .int .i64 R.ad, .int .i64 R.at_, .int .i64 R.bd, .int .i64 R.bt, .int .i64 R.cd, .int .i64 R.ct, .int .i64 R.dd, .int .i64 R.dt, .int .i64 R.ey, .int .i64 R.bo], .agg #[.int .i64 ud, .int .i64 ut], .agg #[.int .i64 vd, .int .i64 vt]] w fun e w' => e = .returned (.tuple #[.bool (tpB R ud ut vd vt), .int .i64 (tpC R ud ut vd vt)]) ∧ Below w.heap.size w w' := by
  go_enter Try.func11, Try.ntmps11
  go_upto_region 1 with (fail)
  have HB : Blk (((w.alloc (.cells #[.int .i64 R.ch.dg, .int .i64 R.ch.tn, .string R.ch.nm, .slice A R.ch.zs.length c, .int .i64 R.ch.wd, .int .i64 R.ch.lf, .int .i64 R.ch.rt, .int .i64 R.ad, .int .i64 R.at_, .int .i64 R.bd, .int .i64 R.bt, .int .i64 R.cd, .int .i64 R.ct, .int .i64 R.dd, .int .i64 R.dt, .int .i64 R.ey, .int .i64 R.bo] 32)).alloc (.cells #[.int .i64 ud, .int .i64 ut] 25)).alloc (.cells #[.int .i64 vd, .int .i64 vt] 25)) w.heap.size 32 #[.int .i64 R.ch.dg, .int .i64 R.ch.tn, .string R.ch.nm, .slice A R.ch.zs.length c, .int .i64 R.ch.wd, .int .i64 R.ch.lf, .int .i64 R.ch.rt, .int .i64 R.ad, .int .i64 R.at_, .int .i64 R.bd, .int .i64 R.bt, .int .i64 R.cd, .int .i64 R.ct, .int .i64 R.dd, .int .i64 R.dt, .int .i64 R.ey, .int .i64 R.bo] := Blk.alloc _ (Blk.alloc _ (Blk.new _ _ _))
  have HU : Blk (((w.alloc (.cells #[.int .i64 R.ch.dg, .int .i64 R.ch.tn, .string R.ch.nm, .slice A R.ch.zs.length c, .int .i64 R.ch.wd, .int .i64 R.ch.lf, .int .i64 R.ch.rt, .int .i64 R.ad, .int .i64 R.at_, .int .i64 R.bd, .int .i64 R.bt, .int .i64 R.cd, .int .i64 R.ct, .int .i64 R.dd, .int .i64 R.dt, .int .i64 R.ey, .int .i64 R.bo] 32)).alloc (.cells #[.int .i64 ud, .int .i64 ut] 25)).alloc (.cells #[.int .i64 vd, .int .i64 vt] 25)) (w.heap.size + 1) 25 #[.int .i64 ud, .int .i64 ut] := Blk.alloc _ (by have h := Blk.new (w.alloc (.cells #[.int .i64 R.ch.dg, .int .i64 R.ch.tn, .string R.ch.nm, .slice A R.ch.zs.length c, .int .i64 R.ch.wd, .int .i64 R.ch.lf, .int .i64 R.ch.rt, .int .i64 R.ad, .int .i64 R.at_, .int .i64 R.bd, .int .i64 R.bt, .int .i64 R.cd, .int .i64 R.ct, .int .i64 R.dd, .int .i64 R.dt, .int .i64 R.ey, .int .i64 R.bo] 32)) 25 #[.int .i64 ud, .int .i64 ut]; simp only [World.size_alloc] at h; exact h)
  have HV : Blk (((w.alloc (.cells #[.int .i64 R.ch.dg, .int .i64 R.ch.tn, .string R.ch.nm, .slice A R.ch.zs.length c, .int .i64 R.ch.wd, .int .i64 R.ch.lf, .int .i64 R.ch.rt, .int .i64 R.ad, .int .i64 R.at_, .int .i64 R.bd, .int .i64 R.bt, .int .i64 R.cd, .int .i64 R.ct, .int .i64 R.dd, .int .i64 R.dt, .int .i64 R.ey, .int .i64 R.bo] 32)).alloc (.cells #[.int .i64 ud, .int .i64 ut] 25)).alloc (.cells #[.int .i64 vd, .int .i64 vt] 25)) (w.heap.size + 1 + 1) 25 #[.int .i64 vd, .int .i64 vt] := by have h := Blk.new ((w.alloc (.cells #[.int .i64 R.ch.dg, .int .i64 R.ch.tn, .string R.ch.nm, .slice A R.ch.zs.length c, .int .i64 R.ch.wd, .int .i64 R.ch.lf, .int .i64 R.ch.rt, .int .i64 R.ad, .int .i64 R.at_, .int .i64 R.bd, .int .i64 R.bt, .int .i64 R.cd, .int .i64 R.ct, .int .i64 R.dd, .int .i64 R.dt, .int .i64 R.ey, .int .i64 R.bo] 32)).alloc (.cells #[.int .i64 ud, .int .i64 ut] 25)) 25 #[.int .i64 vd, .int .i64 vt]; simp only [World.size_alloc] at h; exact h
  have hbel0 : Below w.heap.size w (((w.alloc (.cells #[.int .i64 R.ch.dg, .int .i64 R.ch.tn, .string R.ch.nm, .slice A R.ch.zs.length c, .int .i64 R.ch.wd, .int .i64 R.ch.lf, .int .i64 R.ch.rt, .int .i64 R.ad, .int .i64 R.at_, .int .i64 R.bd, .int .i64 R.bt, .int .i64 R.cd, .int .i64 R.ct, .int .i64 R.dd, .int .i64 R.dt, .int .i64 R.ey, .int .i64 R.bo] 32)).alloc (.cells #[.int .i64 ud, .int .i64 ut] 25)).alloc (.cells #[.int .i64 vd, .int .i64 vt] 25)) := by repeat (with_reducible first | exact Below.refl _ _ | assumption | refine Bel.alloc ?_ _ | refine Bel.step (by assumption) ?_ | refine Below.drew ?_ | refine Bel.drewN ?_ _ | refine Below.setCell ?_ (by first | exact Nat.le_refl _ | omega | (simp; done) | (simp; omega)) _)
  have HI := Lib.hid (Ints.step hbel0 hA)
  generalize ((w.alloc (.cells #[.int .i64 R.ch.dg, .int .i64 R.ch.tn, .string R.ch.nm, .slice A R.ch.zs.length c, .int .i64 R.ch.wd, .int .i64 R.ch.lf, .int .i64 R.ch.rt, .int .i64 R.ad, .int .i64 R.at_, .int .i64 R.bd, .int .i64 R.bt, .int .i64 R.cd, .int .i64 R.ct, .int .i64 R.dd, .int .i64 R.dt, .int .i64 R.ey, .int .i64 R.bo] 32)).alloc (.cells #[.int .i64 ud, .int .i64 ut] 25)).alloc (.cells #[.int .i64 vd, .int .i64 vt] 25) = w0 at HB HU HV hbel0 HI ⊢
  have u0 : w0.cell? ⟨w.heap.size + 1, 0, none⟩ = some (.int .i64 ud) := by rw [HU.cell]; rfl
  have u1 : w0.cell? ⟨w.heap.size + 1, 1, none⟩ = some (.int .i64 ut) := by rw [HU.cell]; rfl
  have v0 : w0.cell? ⟨w.heap.size + 1 + 1, 0, none⟩ = some (.int .i64 vd) := by rw [HV.cell]; rfl
  have v1 : w0.cell? ⟨w.heap.size + 1 + 1, 1, none⟩ = some (.int .i64 vt) := by rw [HV.cell]; rfl
  go_wp2_with (refine wpList_load_blkG 32 _ _ HB Try.underlying32 (by kernel_rfl) rfl rfl (by rfl) ?_)
  go_at_call 71; refine (l27Code_c _ _ _ _ _ _ _ hn hm _ (by repeat (with_reducible first | exact HI.out | assumption | refine Ints.drew ?_ | refine Ints.drewN _ ?_ | refine Ints.alloc _ ?_ | refine Ints.step (by assumption) ?_))).mono ?_; rintro e w1 ⟨rfl, hb1⟩; obtain ⟨hc1, hf1, hz1⟩ := bel hb1; (try simp only [World.size_drew, World.cell?_drew, World.frozen?_drew] at hc1 hf1 hz1); (try simp only [World.heap_drewN, World.cell?_drewN, World.frozen?_drewN] at hc1 hf1 hz1); (try have hl1 : w.heap.size < w1.heap.size := by (have hq := hb1.size; (try simp at hq); omega)); (try have hm1 : w.heap.size + 1 < w1.heap.size := by (have hq := hb1.size; (try simp at hq); omega)); (try have hn1 : w.heap.size + 1 + 1 < w1.heap.size := by (have hq := hb1.size; (try simp at hq); omega)); (try have hp1 : b < w1.heap.size := by (have hq := hb1.size; (try simp at hq); omega)); (try have ho1 : b' < w1.heap.size := by (have hq := hb1.size; (try simp at hq); omega))
  have hbel1 := Bel.step hb1 hbel0
  have HB1 := Blk.step hb1 HB
  have HU1 := Blk.step hb1 HU
  have HV1 := Blk.step hb1 HV
  have HI1 := Lib.hid (Ints.step hb1 HI.out)
  clear hb1 hc1 hf1 hz1 HB HU HV HI u0 u1 v0 v1
  have u0 : w1.cell? ⟨w.heap.size + 1, 0, none⟩ = some (.int .i64 ud) := by rw [HU1.cell]; rfl
  have u1 : w1.cell? ⟨w.heap.size + 1, 1, none⟩ = some (.int .i64 ut) := by rw [HU1.cell]; rfl
  have v0 : w1.cell? ⟨w.heap.size + 1 + 1, 0, none⟩ = some (.int .i64 vd) := by rw [HV1.cell]; rfl
  have v1 : w1.cell? ⟨w.heap.size + 1 + 1, 1, none⟩ = some (.int .i64 vt) := by rw [HV1.cell]; rfl
  by_cases hx : pkC R ud ut vd vt = 0
  rotate_left
  · have HX := Lib.hid (tp_no hx)
    have b1 : (pkC R ud ut vd vt != 0) = true := by simpa using hx
    have b2 : (pkC R ud ut vd vt == 0) = false := by simpa using hx
    clear hx
    go_wp2
    go_ret2
    exact ⟨by rw [HX.out.1, HX.out.2]; rfl, by repeat (with_reducible first | exact Below.refl _ _ | assumption | refine Bel.alloc ?_ _ | refine Bel.step (by assumption) ?_ | refine Below.drew ?_ | refine Bel.drewN ?_ _ | refine Below.setCell ?_ (by first | exact Nat.le_refl _ | omega | (simp; done) | (simp; omega)) _)⟩
  have HX := Lib.hid hx
  have HK := Lib.hid (pkC_0 hx)
  rw [hx]
  clear hx
  go_wp2_with (refine wpList_load_blkG 32 _ _ HB1 Try.underlying32 (by kernel_rfl) rfl rfl (by rfl) ?_)
  go_at_call 72; refine (l27Covered_c _ _ _ _ _ _ _ HK.out.1 HK.out.2.1 HK.out.2.2 _).mono ?_; rintro e w2 ⟨rfl, hb2⟩; obtain ⟨hc2, hf2, hz2⟩ := bel hb2; (try simp only [World.size_drew, World.cell?_drew, World.frozen?_drew] at hc2 hf2 hz2); (try simp only [World.heap_drewN, World.cell?_drewN, World.frozen?_drewN] at hc2 hf2 hz2); (try have hl2 : w.heap.size < w2.heap.size := by (have hq := hb2.size; (try simp at hq); omega)); (try have hm2 : w.heap.size + 1 < w2.heap.size := by (have hq := hb2.size; (try simp at hq); omega)); (try have hn2 : w.heap.size + 1 + 1 < w2.heap.size := by (have hq := hb2.size; (try simp at hq); omega)); (try have hp2 : b < w2.heap.size := by (have hq := hb2.size; (try simp at hq); omega)); (try have ho2 : b' < w2.heap.size := by (have hq := hb2.size; (try simp at hq); omega))
  have hbel2 := Bel.step hb2 hbel1
  have HB2 := Blk.step hb2 HB1
  have HU2 := Blk.step hb2 HU1
  have HV2 := Blk.step hb2 HV1
  have HI2 := Lib.hid (Ints.step hb2 HI1.out)
  clear hb2 hc2 hf2 hz2 HB1 HU1 HV1 HI1 u0 u1 v0 v1
  have u0 : w2.cell? ⟨w.heap.size + 1, 0, none⟩ = some (.int .i64 ud) := by rw [HU2.cell]; rfl
  have u1 : w2.cell? ⟨w.heap.size + 1, 1, none⟩ = some (.int .i64 ut) := by rw [HU2.cell]; rfl
  have v0 : w2.cell? ⟨w.heap.size + 1 + 1, 0, none⟩ = some (.int .i64 vd) := by rw [HV2.cell]; rfl
  have v1 : w2.cell? ⟨w.heap.size + 1 + 1, 1, none⟩ = some (.int .i64 vt) := by rw [HV2.cell]; rfl
  cases hc : cvR R ud ut vd vt
  · have HV := Lib.hid (tp_five HX.out hc)
    clear hc
    go_wp2
    go_ret2
    exact ⟨by rw [HV.out.1, HV.out.2]; rfl, by repeat (with_reducible first | exact Below.refl _ _ | assumption | refine Bel.alloc ?_ _ | refine Bel.step (by assumption) ?_ | refine Below.drew ?_ | refine Bel.drewN ?_ _ | refine Below.setCell ?_ (by first | exact Nat.le_refl _ | omega | (simp; done) | (simp; omega)) _)⟩
  have HV := Lib.hid (tp_0 HX.out hc)
  have HR := Lib.hid (cov_rr HK.out.1 HK.out.2.1 HK.out.2.2 hc)
  obtain ⟨k1, _, _, _, _, k2, _⟩ := okRe_iff HK.out.1
  obtain ⟨e1, e2⟩ := inB_iff.1 k2
  have HC := Lib.hid k1
  clear hc k1 k2
  have p0 : w2.cell? ⟨w.heap.size, 0, none⟩ = some (.int .i64 R.ch.dg) := by rw [HB2.cell]; rfl
  have p1 : w2.cell? ⟨w.heap.size, 1, none⟩ = some (.int .i64 R.ch.tn) := by rw [HB2.cell]; rfl
  have p2 : w2.cell? ⟨w.heap.size, 2, none⟩ = some (.string R.ch.nm) := by rw [HB2.cell]; rfl
  have p3 : w2.cell? ⟨w.heap.size, 3, none⟩ = some (.slice A R.ch.zs.length c) := by rw [HB2.cell]; rfl
  have p4 : w2.cell? ⟨w.heap.size, 4, none⟩ = some (.int .i64 R.ch.wd) := by rw [HB2.cell]; rfl
  have p5 : w2.cell? ⟨w.heap.size, 5, none⟩ = some (.int .i64 R.ch.lf) := by rw [HB2.cell]; rfl
  have p6 : w2.cell? ⟨w.heap.size, 6, none⟩ = some (.int .i64 R.ch.rt) := by rw [HB2.cell]; rfl
  have p7 : w2.cell? ⟨w.heap.size, 7, none⟩ = some (.int .i64 R.ad) := by rw [HB2.cell]; rfl
  have p8 : w2.cell? ⟨w.heap.size, 8, none⟩ = some (.int .i64 R.at_) := by rw [HB2.cell]; rfl
  have p9 : w2.cell? ⟨w.heap.size, 9, none⟩ = some (.int .i64 R.bd) := by rw [HB2.cell]; rfl
  have p10 : w2.cell? ⟨w.heap.size, 10, none⟩ = some (.int .i64 R.bt) := by rw [HB2.cell]; rfl
  have p11 : w2.cell? ⟨w.heap.size, 11, none⟩ = some (.int .i64 R.cd) := by rw [HB2.cell]; rfl
  have p12 : w2.cell? ⟨w.heap.size, 12, none⟩ = some (.int .i64 R.ct) := by rw [HB2.cell]; rfl
  have p13 : w2.cell? ⟨w.heap.size, 13, none⟩ = some (.int .i64 R.dd) := by rw [HB2.cell]; rfl
  have p14 : w2.cell? ⟨w.heap.size, 14, none⟩ = some (.int .i64 R.dt) := by rw [HB2.cell]; rfl
  have p15 : w2.cell? ⟨w.heap.size, 15, none⟩ = some (.int .i64 R.ey) := by rw [HB2.cell]; rfl
  have p16 : w2.cell? ⟨w.heap.size, 16, none⟩ = some (.int .i64 R.bo) := by rw [HB2.cell]; rfl
  have l2 := HB2.lt
  clear HU2 HV2
  go_wp2_with fail
  go_at_call 73; refine (ReadingError_S _ _ _ _ _ _ _ _ hn hm _ (by repeat (with_reducible first | exact HI2.out | assumption | refine Ints.drew ?_ | refine Ints.drewN _ ?_ | refine Ints.alloc _ ?_ | refine Ints.step (by assumption) ?_))).mono ?_; rintro e w3 ⟨rfl, hb3⟩; obtain ⟨hc3, hf3, hz3⟩ := bel hb3; (try simp only [World.size_drew, World.cell?_drew, World.frozen?_drew] at hc3 hf3 hz3); (try simp only [World.heap_drewN, World.cell?_drewN, World.frozen?_drewN] at hc3 hf3 hz3); (try have hl3 : w.heap.size < w3.heap.size := by (have hq := hb3.size; (try simp at hq); omega)); (try have hm3 : w.heap.size + 1 < w3.heap.size := by (have hq := hb3.size; (try simp at hq); omega)); (try have hn3 : w.heap.size + 1 + 1 < w3.heap.size := by (have hq := hb3.size; (try simp at hq); omega)); (try have hp3 : b < w3.heap.size := by (have hq := hb3.size; (try simp at hq); omega)); (try have ho3 : b' < w3.heap.size := by (have hq := hb3.size; (try simp at hq); omega))
  rw [HR.out.1, HR.out.2.1]
  generalize reX R.ch ud ut vd vt R.ey = x at *
  go_wp2
  go_ret2
  exact ⟨by rw [HV.out.1, HV.out.2]; rfl, by repeat (with_reducible first | exact Below.refl _ _ | assumption | refine Bel.alloc ?_ _ | refine Bel.step (by assumption) ?_ | refine Below.drew ?_ | refine Bel.drewN ?_ _ | refine Below.setCell ?_ (by first | exact Nat.le_refl _ | omega | (simp; done) | (simp; omega)) _)⟩
set_option maxRecDepth 50000 in
set_option maxHeartbeats 2000000 in
theorem TestPair_I (R : Re) (A : Option Addr) (c : Nat) (ud ut vd vt : Int) (hn : R.ch.zs.length ≤ 1048576) (hm : R.ch.nm.size ≤ 1048576) (w : World) (hA : Ints w A R.ch.zs) :
    Calls Try.prog 10 #[.agg #[.int .i64 R.ch.dg, .int .i64 R.ch.tn, .string R.ch.nm, .slice A R.ch.zs.length c, .int .i64 R.ch.wd, .int .i64 R.ch.lf, .int .i64 R.ch.rt, .int .i64 R.ad, .int .i64 R.at_, .int .i64 R.bd, .int .i64 R.bt, .int .i64 R.cd, .int .i64 R.ct, .int .i64 R.dd, .int .i64 R.dt, .int .i64 R.ey, .int .i64 R.bo], .agg #[.int .i64 ud, .int .i64 ut], .agg #[.int .i64 vd, .int .i64 vt]] w fun e w' => e = .returned (.tuple #[.bool (tpB R ud ut vd vt), .int .i64 (tpC R ud ut vd vt)]) ∧ Below w.heap.size w w' := by
  go_enter Try.func10, Try.ntmps10
  go_upto_region 1 with (fail)
  have HB : Blk (((w.alloc (.cells #[.int .i64 R.ch.dg, .int .i64 R.ch.tn, .string R.ch.nm, .slice A R.ch.zs.length c, .int .i64 R.ch.wd, .int .i64 R.ch.lf, .int .i64 R.ch.rt, .int .i64 R.ad, .int .i64 R.at_, .int .i64 R.bd, .int .i64 R.bt, .int .i64 R.cd, .int .i64 R.ct, .int .i64 R.dd, .int .i64 R.dt, .int .i64 R.ey, .int .i64 R.bo] 32)).alloc (.cells #[.int .i64 ud, .int .i64 ut] 25)).alloc (.cells #[.int .i64 vd, .int .i64 vt] 25)) w.heap.size 32 #[.int .i64 R.ch.dg, .int .i64 R.ch.tn, .string R.ch.nm, .slice A R.ch.zs.length c, .int .i64 R.ch.wd, .int .i64 R.ch.lf, .int .i64 R.ch.rt, .int .i64 R.ad, .int .i64 R.at_, .int .i64 R.bd, .int .i64 R.bt, .int .i64 R.cd, .int .i64 R.ct, .int .i64 R.dd, .int .i64 R.dt, .int .i64 R.ey, .int .i64 R.bo] := Blk.alloc _ (Blk.alloc _ (Blk.new _ _ _))
  have HU : Blk (((w.alloc (.cells #[.int .i64 R.ch.dg, .int .i64 R.ch.tn, .string R.ch.nm, .slice A R.ch.zs.length c, .int .i64 R.ch.wd, .int .i64 R.ch.lf, .int .i64 R.ch.rt, .int .i64 R.ad, .int .i64 R.at_, .int .i64 R.bd, .int .i64 R.bt, .int .i64 R.cd, .int .i64 R.ct, .int .i64 R.dd, .int .i64 R.dt, .int .i64 R.ey, .int .i64 R.bo] 32)).alloc (.cells #[.int .i64 ud, .int .i64 ut] 25)).alloc (.cells #[.int .i64 vd, .int .i64 vt] 25)) (w.heap.size + 1) 25 #[.int .i64 ud, .int .i64 ut] := Blk.alloc _ (by have h := Blk.new (w.alloc (.cells #[.int .i64 R.ch.dg, .int .i64 R.ch.tn, .string R.ch.nm, .slice A R.ch.zs.length c, .int .i64 R.ch.wd, .int .i64 R.ch.lf, .int .i64 R.ch.rt, .int .i64 R.ad, .int .i64 R.at_, .int .i64 R.bd, .int .i64 R.bt, .int .i64 R.cd, .int .i64 R.ct, .int .i64 R.dd, .int .i64 R.dt, .int .i64 R.ey, .int .i64 R.bo] 32)) 25 #[.int .i64 ud, .int .i64 ut]; simp only [World.size_alloc] at h; exact h)
  have HV : Blk (((w.alloc (.cells #[.int .i64 R.ch.dg, .int .i64 R.ch.tn, .string R.ch.nm, .slice A R.ch.zs.length c, .int .i64 R.ch.wd, .int .i64 R.ch.lf, .int .i64 R.ch.rt, .int .i64 R.ad, .int .i64 R.at_, .int .i64 R.bd, .int .i64 R.bt, .int .i64 R.cd, .int .i64 R.ct, .int .i64 R.dd, .int .i64 R.dt, .int .i64 R.ey, .int .i64 R.bo] 32)).alloc (.cells #[.int .i64 ud, .int .i64 ut] 25)).alloc (.cells #[.int .i64 vd, .int .i64 vt] 25)) (w.heap.size + 1 + 1) 25 #[.int .i64 vd, .int .i64 vt] := by have h := Blk.new ((w.alloc (.cells #[.int .i64 R.ch.dg, .int .i64 R.ch.tn, .string R.ch.nm, .slice A R.ch.zs.length c, .int .i64 R.ch.wd, .int .i64 R.ch.lf, .int .i64 R.ch.rt, .int .i64 R.ad, .int .i64 R.at_, .int .i64 R.bd, .int .i64 R.bt, .int .i64 R.cd, .int .i64 R.ct, .int .i64 R.dd, .int .i64 R.dt, .int .i64 R.ey, .int .i64 R.bo] 32)).alloc (.cells #[.int .i64 ud, .int .i64 ut] 25)) 25 #[.int .i64 vd, .int .i64 vt]; simp only [World.size_alloc] at h; exact h
  have hbel0 : Below w.heap.size w (((w.alloc (.cells #[.int .i64 R.ch.dg, .int .i64 R.ch.tn, .string R.ch.nm, .slice A R.ch.zs.length c, .int .i64 R.ch.wd, .int .i64 R.ch.lf, .int .i64 R.ch.rt, .int .i64 R.ad, .int .i64 R.at_, .int .i64 R.bd, .int .i64 R.bt, .int .i64 R.cd, .int .i64 R.ct, .int .i64 R.dd, .int .i64 R.dt, .int .i64 R.ey, .int .i64 R.bo] 32)).alloc (.cells #[.int .i64 ud, .int .i64 ut] 25)).alloc (.cells #[.int .i64 vd, .int .i64 vt] 25)) := by repeat (with_reducible first | exact Below.refl _ _ | assumption | refine Bel.alloc ?_ _ | refine Bel.step (by assumption) ?_ | refine Below.drew ?_ | refine Bel.drewN ?_ _ | refine Below.setCell ?_ (by first | exact Nat.le_refl _ | omega | (simp; done) | (simp; omega)) _)
  have HI := Lib.hid (Ints.step hbel0 hA)
  generalize ((w.alloc (.cells #[.int .i64 R.ch.dg, .int .i64 R.ch.tn, .string R.ch.nm, .slice A R.ch.zs.length c, .int .i64 R.ch.wd, .int .i64 R.ch.lf, .int .i64 R.ch.rt, .int .i64 R.ad, .int .i64 R.at_, .int .i64 R.bd, .int .i64 R.bt, .int .i64 R.cd, .int .i64 R.ct, .int .i64 R.dd, .int .i64 R.dt, .int .i64 R.ey, .int .i64 R.bo] 32)).alloc (.cells #[.int .i64 ud, .int .i64 ut] 25)).alloc (.cells #[.int .i64 vd, .int .i64 vt] 25) = w0 at HB HU HV hbel0 HI ⊢
  have u0 : w0.cell? ⟨w.heap.size + 1, 0, none⟩ = some (.int .i64 ud) := by rw [HU.cell]; rfl
  have u1 : w0.cell? ⟨w.heap.size + 1, 1, none⟩ = some (.int .i64 ut) := by rw [HU.cell]; rfl
  have v0 : w0.cell? ⟨w.heap.size + 1 + 1, 0, none⟩ = some (.int .i64 vd) := by rw [HV.cell]; rfl
  have v1 : w0.cell? ⟨w.heap.size + 1 + 1, 1, none⟩ = some (.int .i64 vt) := by rw [HV.cell]; rfl
  go_wp2_with (refine wpList_load_blkG 32 _ _ HB Try.underlying32 (by kernel_rfl) rfl rfl (by rfl) ?_)
  go_at_call 68; refine (checkPair_c _ _ _ _ _ _ _ hn hm _ (by repeat (with_reducible first | exact HI.out | assumption | refine Ints.drew ?_ | refine Ints.drewN _ ?_ | refine Ints.alloc _ ?_ | refine Ints.step (by assumption) ?_))).mono ?_; rintro e w1 ⟨rfl, hb1⟩; obtain ⟨hc1, hf1, hz1⟩ := bel hb1; (try simp only [World.size_drew, World.cell?_drew, World.frozen?_drew] at hc1 hf1 hz1); (try simp only [World.heap_drewN, World.cell?_drewN, World.frozen?_drewN] at hc1 hf1 hz1); (try have hl1 : w.heap.size < w1.heap.size := by (have hq := hb1.size; (try simp at hq); omega)); (try have hm1 : w.heap.size + 1 < w1.heap.size := by (have hq := hb1.size; (try simp at hq); omega)); (try have hn1 : w.heap.size + 1 + 1 < w1.heap.size := by (have hq := hb1.size; (try simp at hq); omega)); (try have hp1 : b < w1.heap.size := by (have hq := hb1.size; (try simp at hq); omega)); (try have ho1 : b' < w1.heap.size := by (have hq := hb1.size; (try simp at hq); omega))
  have hbel1 := Bel.step hb1 hbel0
  have HB1 := Blk.step hb1 HB
  have HU1 := Blk.step hb1 HU
  have HV1 := Blk.step hb1 HV
  have HI1 := Lib.hid (Ints.step hb1 HI.out)
  clear hb1 hc1 hf1 hz1 HB HU HV HI u0 u1 v0 v1
  have u0 : w1.cell? ⟨w.heap.size + 1, 0, none⟩ = some (.int .i64 ud) := by rw [HU1.cell]; rfl
  have u1 : w1.cell? ⟨w.heap.size + 1, 1, none⟩ = some (.int .i64 ut) := by rw [HU1.cell]; rfl
  have v0 : w1.cell? ⟨w.heap.size + 1 + 1, 0, none⟩ = some (.int .i64 vd) := by rw [HV1.cell]; rfl
  have v1 : w1.cell? ⟨w.heap.size + 1 + 1, 1, none⟩ = some (.int .i64 vt) := by rw [HV1.cell]; rfl
  by_cases hx : pkC R ud ut vd vt = 0
  rotate_left
  · have HX := Lib.hid (tp_no hx)
    have b1 : (pkC R ud ut vd vt != 0) = true := by simpa using hx
    have b2 : (pkC R ud ut vd vt == 0) = false := by simpa using hx
    clear hx
    go_wp2
    go_ret2
    exact ⟨by rw [HX.out.1, HX.out.2]; rfl, by repeat (with_reducible first | exact Below.refl _ _ | assumption | refine Bel.alloc ?_ _ | refine Bel.step (by assumption) ?_ | refine Below.drew ?_ | refine Bel.drewN ?_ _ | refine Below.setCell ?_ (by first | exact Nat.le_refl _ | omega | (simp; done) | (simp; omega)) _)⟩
  have HX := Lib.hid hx
  have HK := Lib.hid (pkC_0 hx)
  rw [hx]
  clear hx
  go_wp2_with (refine wpList_load_blkG 32 _ _ HB1 Try.underlying32 (by kernel_rfl) rfl rfl (by rfl) ?_)
  go_at_call 69; refine (isCovered_c _ _ _ _ _ _ _ HK.out.1 HK.out.2.1 HK.out.2.2 _).mono ?_; rintro e w2 ⟨rfl, hb2⟩; obtain ⟨hc2, hf2, hz2⟩ := bel hb2; (try simp only [World.size_drew, World.cell?_drew, World.frozen?_drew] at hc2 hf2 hz2); (try simp only [World.heap_drewN, World.cell?_drewN, World.frozen?_drewN] at hc2 hf2 hz2); (try have hl2 : w.heap.size < w2.heap.size := by (have hq := hb2.size; (try simp at hq); omega)); (try have hm2 : w.heap.size + 1 < w2.heap.size := by (have hq := hb2.size; (try simp at hq); omega)); (try have hn2 : w.heap.size + 1 + 1 < w2.heap.size := by (have hq := hb2.size; (try simp at hq); omega)); (try have hp2 : b < w2.heap.size := by (have hq := hb2.size; (try simp at hq); omega)); (try have ho2 : b' < w2.heap.size := by (have hq := hb2.size; (try simp at hq); omega))
  have hbel2 := Bel.step hb2 hbel1
  have HB2 := Blk.step hb2 HB1
  have HU2 := Blk.step hb2 HU1
  have HV2 := Blk.step hb2 HV1
  have HI2 := Lib.hid (Ints.step hb2 HI1.out)
  clear hb2 hc2 hf2 hz2 HB1 HU1 HV1 HI1 u0 u1 v0 v1
  have u0 : w2.cell? ⟨w.heap.size + 1, 0, none⟩ = some (.int .i64 ud) := by rw [HU2.cell]; rfl
  have u1 : w2.cell? ⟨w.heap.size + 1, 1, none⟩ = some (.int .i64 ut) := by rw [HU2.cell]; rfl
  have v0 : w2.cell? ⟨w.heap.size + 1 + 1, 0, none⟩ = some (.int .i64 vd) := by rw [HV2.cell]; rfl
  have v1 : w2.cell? ⟨w.heap.size + 1 + 1, 1, none⟩ = some (.int .i64 vt) := by rw [HV2.cell]; rfl
  cases hc : cvR R ud ut vd vt
  · have HV := Lib.hid (tp_five HX.out hc)
    clear hc
    go_wp2
    go_ret2
    exact ⟨by rw [HV.out.1, HV.out.2]; rfl, by repeat (with_reducible first | exact Below.refl _ _ | assumption | refine Bel.alloc ?_ _ | refine Bel.step (by assumption) ?_ | refine Below.drew ?_ | refine Bel.drewN ?_ _ | refine Below.setCell ?_ (by first | exact Nat.le_refl _ | omega | (simp; done) | (simp; omega)) _)⟩
  have HV := Lib.hid (tp_0 HX.out hc)
  have HR := Lib.hid (cov_rr HK.out.1 HK.out.2.1 HK.out.2.2 hc)
  obtain ⟨k1, _, _, _, _, k2, _⟩ := okRe_iff HK.out.1
  obtain ⟨e1, e2⟩ := inB_iff.1 k2
  have HC := Lib.hid k1
  clear hc k1 k2
  have p0 : w2.cell? ⟨w.heap.size, 0, none⟩ = some (.int .i64 R.ch.dg) := by rw [HB2.cell]; rfl
  have p1 : w2.cell? ⟨w.heap.size, 1, none⟩ = some (.int .i64 R.ch.tn) := by rw [HB2.cell]; rfl
  have p2 : w2.cell? ⟨w.heap.size, 2, none⟩ = some (.string R.ch.nm) := by rw [HB2.cell]; rfl
  have p3 : w2.cell? ⟨w.heap.size, 3, none⟩ = some (.slice A R.ch.zs.length c) := by rw [HB2.cell]; rfl
  have p4 : w2.cell? ⟨w.heap.size, 4, none⟩ = some (.int .i64 R.ch.wd) := by rw [HB2.cell]; rfl
  have p5 : w2.cell? ⟨w.heap.size, 5, none⟩ = some (.int .i64 R.ch.lf) := by rw [HB2.cell]; rfl
  have p6 : w2.cell? ⟨w.heap.size, 6, none⟩ = some (.int .i64 R.ch.rt) := by rw [HB2.cell]; rfl
  have p7 : w2.cell? ⟨w.heap.size, 7, none⟩ = some (.int .i64 R.ad) := by rw [HB2.cell]; rfl
  have p8 : w2.cell? ⟨w.heap.size, 8, none⟩ = some (.int .i64 R.at_) := by rw [HB2.cell]; rfl
  have p9 : w2.cell? ⟨w.heap.size, 9, none⟩ = some (.int .i64 R.bd) := by rw [HB2.cell]; rfl
  have p10 : w2.cell? ⟨w.heap.size, 10, none⟩ = some (.int .i64 R.bt) := by rw [HB2.cell]; rfl
  have p11 : w2.cell? ⟨w.heap.size, 11, none⟩ = some (.int .i64 R.cd) := by rw [HB2.cell]; rfl
  have p12 : w2.cell? ⟨w.heap.size, 12, none⟩ = some (.int .i64 R.ct) := by rw [HB2.cell]; rfl
  have p13 : w2.cell? ⟨w.heap.size, 13, none⟩ = some (.int .i64 R.dd) := by rw [HB2.cell]; rfl
  have p14 : w2.cell? ⟨w.heap.size, 14, none⟩ = some (.int .i64 R.dt) := by rw [HB2.cell]; rfl
  have p15 : w2.cell? ⟨w.heap.size, 15, none⟩ = some (.int .i64 R.ey) := by rw [HB2.cell]; rfl
  have p16 : w2.cell? ⟨w.heap.size, 16, none⟩ = some (.int .i64 R.bo) := by rw [HB2.cell]; rfl
  have l2 := HB2.lt
  clear HU2 HV2
  go_wp2_with fail
  go_at_call 70; refine (readingError_c _ _ _ _ _ _ _ _ hn hm HC.out HK.out.2.1 HK.out.2.2 e1 e2 _ (by repeat (with_reducible first | exact HI2.out | assumption | refine Ints.drew ?_ | refine Ints.drewN _ ?_ | refine Ints.alloc _ ?_ | refine Ints.step (by assumption) ?_))).mono ?_; rintro e w3 ⟨rfl, hb3⟩; obtain ⟨hc3, hf3, hz3⟩ := bel hb3; (try simp only [World.size_drew, World.cell?_drew, World.frozen?_drew] at hc3 hf3 hz3); (try simp only [World.heap_drewN, World.cell?_drewN, World.frozen?_drewN] at hc3 hf3 hz3); (try have hl3 : w.heap.size < w3.heap.size := by (have hq := hb3.size; (try simp at hq); omega)); (try have hm3 : w.heap.size + 1 < w3.heap.size := by (have hq := hb3.size; (try simp at hq); omega)); (try have hn3 : w.heap.size + 1 + 1 < w3.heap.size := by (have hq := hb3.size; (try simp at hq); omega)); (try have hp3 : b < w3.heap.size := by (have hq := hb3.size; (try simp at hq); omega)); (try have ho3 : b' < w3.heap.size := by (have hq := hb3.size; (try simp at hq); omega))
  rw [HR.out.2.2.1, HR.out.2.2.2]
  generalize reX R.ch ud ut vd vt R.ey = x at *
  go_wp2
  go_ret2
  exact ⟨by rw [HV.out.1, HV.out.2]; rfl, by repeat (with_reducible first | exact Below.refl _ _ | assumption | refine Bel.alloc ?_ _ | refine Bel.step (by assumption) ?_ | refine Below.drew ?_ | refine Bel.drewN ?_ _ | refine Below.setCell ?_ (by first | exact Nat.le_refl _ | omega | (simp; done) | (simp; omega)) _)⟩
end Go.Proofs.Ytpmcgicopogbhaa
