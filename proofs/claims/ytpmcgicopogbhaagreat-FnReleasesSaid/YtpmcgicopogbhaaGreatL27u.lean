/- Chapter 27: readings of a release. Conditions: as stated at each contract. -/
import Derived.Test.YtpmcgicopogbhaaGreatProg
import Derived.Test.YtpmcgicopogbhaaGreatBase
import Derived.Test.YtpmcgicopogbhaaGreatZy
import Derived.Test.YtpmcgicopogbhaaGreatRw
import Derived.Test.YtpmcgicopogbhaaGreatRg
import Derived.Test.YtpmcgicopogbhaaGreatL01
import Derived.Test.YtpmcgicopogbhaaGreatCp
import Derived.Test.YtpmcgicopogbhaaGreatL18
import Derived.Test.YtpmcgicopogbhaaGreatL23
import Derived.Test.YtpmcgicopogbhaaGreatL03
import Derived.Test.YtpmcgicopogbhaaGreatL04
import Derived.Test.YtpmcgicopogbhaaGreatL23d
import Derived.Test.YtpmcgicopogbhaaGreatL23e
import Derived.Test.YtpmcgicopogbhaaGreatL24
import Derived.Test.YtpmcgicopogbhaaGreatL24b
import Derived.Test.YtpmcgicopogbhaaGreatL24c
import Derived.Test.YtpmcgicopogbhaaGreatL24f
import Derived.Test.YtpmcgicopogbhaaGreatL24g
import Derived.Test.YtpmcgicopogbhaaGreatL24r
import Derived.Test.YtpmcgicopogbhaaGreatL23g
import Derived.Test.YtpmcgicopogbhaaGreatL23h
import Derived.Test.YtpmcgicopogbhaaGreatL27o
import Derived.Test.YtpmcgicopogbhaaGreatL27a
import Derived.Test.YtpmcgicopogbhaaGreatL27b
import Derived.Test.YtpmcgicopogbhaaGreatL27c
import Derived.Test.YtpmcgicopogbhaaGreatL27t
import Derived.WalkKit
import Derived.WalkSpells
import Derived.WalkLawsBesides
import Derived.Lib.Hide
import Derived.Deep.QuietTactic
import Derived.BigQuiet
import Derived.Deep.Draws
import Derived.Deep.RegionHeld3
import Derived.Deep.Cut
namespace Go.Proofs.YtpmcgicopogbhaaGreat
open Go.RowKit
set_option linter.unusedVariables false
set_option linter.unusedSimpArgs false
def rlA (R : Re) (ud ut vd vt : Int) : Int := fmL R.ch ud ut vd vt - R.bo
def rlB (R : Re) (ud ut vd vt : Int) : Int := fmH R.ch ud ut vd vt + R.bo
def rlC (R : Re) (ud ut vd vt : Int) : Int := if tpC R ud ut vd vt = 0 then spC (rlA R ud ut vd vt) (rlB R ud ut vd vt) else tpC R ud ut vd vt
def rlV (R : Re) (ud ut vd vt x : Int) : Int := if tpC R ud ut vd vt = 0 then spV (rlA R ud ut vd vt) (rlB R ud ut vd vt) x else 0
def rl0 (R : Re) (ud ut vd vt : Int) : Int := rlV R ud ut vd vt (atD (nBw (rlA R ud ut vd vt)))
def rl1 (R : Re) (ud ut vd vt : Int) : Int := rlV R ud ut vd vt (atT (nBw (rlA R ud ut vd vt)))
def rl2 (R : Re) (ud ut vd vt : Int) : Int := rlV R ud ut vd vt (atD (nAb (rlB R ud ut vd vt)))
def rl3 (R : Re) (ud ut vd vt : Int) : Int := rlV R ud ut vd vt (atT (nAb (rlB R ud ut vd vt)))
theorem rl_no {R : Re} {ud ut vd vt : Int} (h : tpC R ud ut vd vt ≠ 0) : rlC R ud ut vd vt = tpC R ud ut vd vt ∧ rl0 R ud ut vd vt = 0 ∧ rl1 R ud ut vd vt = 0 ∧ rl2 R ud ut vd vt = 0 ∧ rl3 R ud ut vd vt = 0 := by simp [rlC, rl0, rl1, rl2, rl3, rlV, h]
theorem rl_0 {R : Re} {ud ut vd vt : Int} (h : tpC R ud ut vd vt = 0) : rlC R ud ut vd vt = spC (rlA R ud ut vd vt) (rlB R ud ut vd vt) ∧ rl0 R ud ut vd vt = spV (rlA R ud ut vd vt) (rlB R ud ut vd vt) (atD (nBw (rlA R ud ut vd vt))) ∧ rl1 R ud ut vd vt = spV (rlA R ud ut vd vt) (rlB R ud ut vd vt) (atT (nBw (rlA R ud ut vd vt))) ∧ rl2 R ud ut vd vt = spV (rlA R ud ut vd vt) (rlB R ud ut vd vt) (atD (nAb (rlB R ud ut vd vt))) ∧ rl3 R ud ut vd vt = spV (rlA R ud ut vd vt) (rlB R ud ut vd vt) (atT (nAb (rlB R ud ut vd vt))) := by simp [rlC, rl0, rl1, rl2, rl3, rlV, h]
theorem fm_two_u (C : Ch) (ud ut vd vt : Int) : (fmT C [(ud, ut), (vd, vt)] [(ud, ut), (vd, vt)].length).1 = fmL C ud ut vd vt ∧ (fmT C [(ud, ut), (vd, vt)] [(ud, ut), (vd, vt)].length).2 = fmH C ud ut vd vt := ⟨rfl, rfl⟩
set_option maxRecDepth 50000 in
set_option maxHeartbeats 2000000 in
theorem ReadRelease_S (R : Re) (A : Option Addr) (c : Nat) (ud ut vd vt : Int) (hn : R.ch.zs.length ≤ 1048576) (hm : R.ch.nm.size ≤ 1048576) (w : World) (hA : Ints w A R.ch.zs) :
    Calls Tryz.prog 14 #[.agg #[.int .i64 R.ch.dg, .int .i64 R.ch.tn, .string R.ch.nm, .slice A R.ch.zs.length c, .int .i64 R.ch.wd, .int .i64 R.ch.lf, .int .i64 R.ch.rt, .int .i64 R.ad, .int .i64 R.at_, .int .i64 R.bd, .int .i64 R.bt, .int .i64 R.cd, .int .i64 R.ct, .int .i64 R.dd, .int .i64 R.dt, .int .i64 R.ey, .int .i64 R.bo], .agg #[.int .i64 ud, .int .i64 ut], .agg #[.int .i64 vd, .int .i64 vt]] w fun e w' => e = .returned (.tuple #[.agg #[.int .i64 (rl0 R ud ut vd vt), .int .i64 (rl1 R ud ut vd vt)], .agg #[.int .i64 (rl2 R ud ut vd vt), .int .i64 (rl3 R ud ut vd vt)], .int .i64 (rlC R ud ut vd vt)]) ∧ Below w.heap.size w w' := by
  go_enter Tryz.func14, Tryz.ntmps14
  go_upto_region 1 with (fail)
  have HB : Blk (((((w.alloc (.cells #[.int .i64 R.ch.dg, .int .i64 R.ch.tn, .string R.ch.nm, .slice A R.ch.zs.length c, .int .i64 R.ch.wd, .int .i64 R.ch.lf, .int .i64 R.ch.rt, .int .i64 R.ad, .int .i64 R.at_, .int .i64 R.bd, .int .i64 R.bt, .int .i64 R.cd, .int .i64 R.ct, .int .i64 R.dd, .int .i64 R.dt, .int .i64 R.ey, .int .i64 R.bo] 32)).alloc (.cells #[.int .i64 ud, .int .i64 ut] 25)).alloc (.cells #[.int .i64 vd, .int .i64 vt] 25)).alloc (.cells #[.int .i64 0, .int .i64 0] 25)).alloc (.cells #[.int .i64 0, .int .i64 0] 25)) (w.heap.size) 32 #[.int .i64 R.ch.dg, .int .i64 R.ch.tn, .string R.ch.nm, .slice A R.ch.zs.length c, .int .i64 R.ch.wd, .int .i64 R.ch.lf, .int .i64 R.ch.rt, .int .i64 R.ad, .int .i64 R.at_, .int .i64 R.bd, .int .i64 R.bt, .int .i64 R.cd, .int .i64 R.ct, .int .i64 R.dd, .int .i64 R.dt, .int .i64 R.ey, .int .i64 R.bo] := Blk.alloc _ (Blk.alloc _ (Blk.alloc _ (Blk.alloc _ (Blk.new _ _ _))))
  have HU : Blk (((((w.alloc (.cells #[.int .i64 R.ch.dg, .int .i64 R.ch.tn, .string R.ch.nm, .slice A R.ch.zs.length c, .int .i64 R.ch.wd, .int .i64 R.ch.lf, .int .i64 R.ch.rt, .int .i64 R.ad, .int .i64 R.at_, .int .i64 R.bd, .int .i64 R.bt, .int .i64 R.cd, .int .i64 R.ct, .int .i64 R.dd, .int .i64 R.dt, .int .i64 R.ey, .int .i64 R.bo] 32)).alloc (.cells #[.int .i64 ud, .int .i64 ut] 25)).alloc (.cells #[.int .i64 vd, .int .i64 vt] 25)).alloc (.cells #[.int .i64 0, .int .i64 0] 25)).alloc (.cells #[.int .i64 0, .int .i64 0] 25)) (w.heap.size + 1) 25 #[.int .i64 ud, .int .i64 ut] := Blk.alloc _ (Blk.alloc _ (Blk.alloc _ (by have h := Blk.new (w.alloc (.cells #[.int .i64 R.ch.dg, .int .i64 R.ch.tn, .string R.ch.nm, .slice A R.ch.zs.length c, .int .i64 R.ch.wd, .int .i64 R.ch.lf, .int .i64 R.ch.rt, .int .i64 R.ad, .int .i64 R.at_, .int .i64 R.bd, .int .i64 R.bt, .int .i64 R.cd, .int .i64 R.ct, .int .i64 R.dd, .int .i64 R.dt, .int .i64 R.ey, .int .i64 R.bo] 32)) 25 #[.int .i64 ud, .int .i64 ut]; simp only [World.size_alloc] at h; exact h)))
  have HV : Blk (((((w.alloc (.cells #[.int .i64 R.ch.dg, .int .i64 R.ch.tn, .string R.ch.nm, .slice A R.ch.zs.length c, .int .i64 R.ch.wd, .int .i64 R.ch.lf, .int .i64 R.ch.rt, .int .i64 R.ad, .int .i64 R.at_, .int .i64 R.bd, .int .i64 R.bt, .int .i64 R.cd, .int .i64 R.ct, .int .i64 R.dd, .int .i64 R.dt, .int .i64 R.ey, .int .i64 R.bo] 32)).alloc (.cells #[.int .i64 ud, .int .i64 ut] 25)).alloc (.cells #[.int .i64 vd, .int .i64 vt] 25)).alloc (.cells #[.int .i64 0, .int .i64 0] 25)).alloc (.cells #[.int .i64 0, .int .i64 0] 25)) (w.heap.size + 1 + 1) 25 #[.int .i64 vd, .int .i64 vt] := Blk.alloc _ (Blk.alloc _ (by have h := Blk.new ((w.alloc (.cells #[.int .i64 R.ch.dg, .int .i64 R.ch.tn, .string R.ch.nm, .slice A R.ch.zs.length c, .int .i64 R.ch.wd, .int .i64 R.ch.lf, .int .i64 R.ch.rt, .int .i64 R.ad, .int .i64 R.at_, .int .i64 R.bd, .int .i64 R.bt, .int .i64 R.cd, .int .i64 R.ct, .int .i64 R.dd, .int .i64 R.dt, .int .i64 R.ey, .int .i64 R.bo] 32)).alloc (.cells #[.int .i64 ud, .int .i64 ut] 25)) 25 #[.int .i64 vd, .int .i64 vt]; simp only [World.size_alloc] at h; exact h))
  have HX : Blk (((((w.alloc (.cells #[.int .i64 R.ch.dg, .int .i64 R.ch.tn, .string R.ch.nm, .slice A R.ch.zs.length c, .int .i64 R.ch.wd, .int .i64 R.ch.lf, .int .i64 R.ch.rt, .int .i64 R.ad, .int .i64 R.at_, .int .i64 R.bd, .int .i64 R.bt, .int .i64 R.cd, .int .i64 R.ct, .int .i64 R.dd, .int .i64 R.dt, .int .i64 R.ey, .int .i64 R.bo] 32)).alloc (.cells #[.int .i64 ud, .int .i64 ut] 25)).alloc (.cells #[.int .i64 vd, .int .i64 vt] 25)).alloc (.cells #[.int .i64 0, .int .i64 0] 25)).alloc (.cells #[.int .i64 0, .int .i64 0] 25)) (w.heap.size + 1 + 1 + 1) 25 #[.int .i64 0, .int .i64 0] := Blk.alloc _ (by have h := Blk.new (((w.alloc (.cells #[.int .i64 R.ch.dg, .int .i64 R.ch.tn, .string R.ch.nm, .slice A R.ch.zs.length c, .int .i64 R.ch.wd, .int .i64 R.ch.lf, .int .i64 R.ch.rt, .int .i64 R.ad, .int .i64 R.at_, .int .i64 R.bd, .int .i64 R.bt, .int .i64 R.cd, .int .i64 R.ct, .int .i64 R.dd, .int .i64 R.dt, .int .i64 R.ey, .int .i64 R.bo] 32)).alloc (.cells #[.int .i64 ud, .int .i64 ut] 25)).alloc (.cells #[.int .i64 vd, .int .i64 vt] 25)) 25 #[.int .i64 0, .int .i64 0]; simp only [World.size_alloc] at h; exact h)
  have HY : Blk (((((w.alloc (.cells #[.int .i64 R.ch.dg, .int .i64 R.ch.tn, .string R.ch.nm, .slice A R.ch.zs.length c, .int .i64 R.ch.wd, .int .i64 R.ch.lf, .int .i64 R.ch.rt, .int .i64 R.ad, .int .i64 R.at_, .int .i64 R.bd, .int .i64 R.bt, .int .i64 R.cd, .int .i64 R.ct, .int .i64 R.dd, .int .i64 R.dt, .int .i64 R.ey, .int .i64 R.bo] 32)).alloc (.cells #[.int .i64 ud, .int .i64 ut] 25)).alloc (.cells #[.int .i64 vd, .int .i64 vt] 25)).alloc (.cells #[.int .i64 0, .int .i64 0] 25)).alloc (.cells #[.int .i64 0, .int .i64 0] 25)) (w.heap.size + 1 + 1 + 1 + 1) 25 #[.int .i64 0, .int .i64 0] := by have h := Blk.new ((((w.alloc (.cells #[.int .i64 R.ch.dg, .int .i64 R.ch.tn, .string R.ch.nm, .slice A R.ch.zs.length c, .int .i64 R.ch.wd, .int .i64 R.ch.lf, .int .i64 R.ch.rt, .int .i64 R.ad, .int .i64 R.at_, .int .i64 R.bd, .int .i64 R.bt, .int .i64 R.cd, .int .i64 R.ct, .int .i64 R.dd, .int .i64 R.dt, .int .i64 R.ey, .int .i64 R.bo] 32)).alloc (.cells #[.int .i64 ud, .int .i64 ut] 25)).alloc (.cells #[.int .i64 vd, .int .i64 vt] 25)).alloc (.cells #[.int .i64 0, .int .i64 0] 25)) 25 #[.int .i64 0, .int .i64 0]; simp only [World.size_alloc] at h; exact h
  have hbel0 : Below w.heap.size w (((((w.alloc (.cells #[.int .i64 R.ch.dg, .int .i64 R.ch.tn, .string R.ch.nm, .slice A R.ch.zs.length c, .int .i64 R.ch.wd, .int .i64 R.ch.lf, .int .i64 R.ch.rt, .int .i64 R.ad, .int .i64 R.at_, .int .i64 R.bd, .int .i64 R.bt, .int .i64 R.cd, .int .i64 R.ct, .int .i64 R.dd, .int .i64 R.dt, .int .i64 R.ey, .int .i64 R.bo] 32)).alloc (.cells #[.int .i64 ud, .int .i64 ut] 25)).alloc (.cells #[.int .i64 vd, .int .i64 vt] 25)).alloc (.cells #[.int .i64 0, .int .i64 0] 25)).alloc (.cells #[.int .i64 0, .int .i64 0] 25)) := by repeat (with_reducible first | exact Below.refl _ _ | assumption | refine Bel.alloc ?_ _ | refine Bel.step (by assumption) ?_ | refine Below.drew ?_ | refine Bel.drewN ?_ _ | refine Below.setCell ?_ (by first | exact Nat.le_refl _ | omega | (simp; done) | (simp; omega)) _)
  have HI := Lib.hid (Ints.step hbel0 hA)
  generalize ((((w.alloc (.cells #[.int .i64 R.ch.dg, .int .i64 R.ch.tn, .string R.ch.nm, .slice A R.ch.zs.length c, .int .i64 R.ch.wd, .int .i64 R.ch.lf, .int .i64 R.ch.rt, .int .i64 R.ad, .int .i64 R.at_, .int .i64 R.bd, .int .i64 R.bt, .int .i64 R.cd, .int .i64 R.ct, .int .i64 R.dd, .int .i64 R.dt, .int .i64 R.ey, .int .i64 R.bo] 32)).alloc (.cells #[.int .i64 ud, .int .i64 ut] 25)).alloc (.cells #[.int .i64 vd, .int .i64 vt] 25)).alloc (.cells #[.int .i64 0, .int .i64 0] 25)).alloc (.cells #[.int .i64 0, .int .i64 0] 25) = w0 at HB HU HV HX HY hbel0 HI ⊢
  have u0 : w0.cell? ⟨w.heap.size + 1, 0, none⟩ = some (.int .i64 ud) := by rw [HU.cell]; rfl
  have u1 : w0.cell? ⟨w.heap.size + 1, 1, none⟩ = some (.int .i64 ut) := by rw [HU.cell]; rfl
  have v0 : w0.cell? ⟨w.heap.size + 1 + 1, 0, none⟩ = some (.int .i64 vd) := by rw [HV.cell]; rfl
  have v1 : w0.cell? ⟨w.heap.size + 1 + 1, 1, none⟩ = some (.int .i64 vt) := by rw [HV.cell]; rfl
  go_wp2_with (refine wpList_load_blkG 32 _ _ HB Tryz.underlying32 (by kernel_rfl) rfl rfl (by rfl) ?_)
  go_at_call 62; refine (l27Code_c _ _ _ _ _ _ _ hn hm _ (by repeat (with_reducible first | exact HI.out | assumption | refine Ints.drew ?_ | refine Ints.drewN _ ?_ | refine Ints.alloc _ ?_ | refine Ints.step (by assumption) ?_))).mono ?_; rintro e w1 ⟨rfl, hb1⟩; obtain ⟨hc1, hf1, hz1⟩ := bel hb1; (try simp only [World.size_drew, World.cell?_drew, World.frozen?_drew, World.heap_drewN, World.cell?_drewN, World.frozen?_drewN] at hc1 hf1 hz1); (try have hl1 : w.heap.size < w1.heap.size := zl hb1); (try have hm1 : w.heap.size + 1 < w1.heap.size := zl hb1); (try have hn1 : w.heap.size + 1 + 1 < w1.heap.size := zl hb1); (try have hp1 : b < w1.heap.size := zl hb1); (try have ho1 : b' < w1.heap.size := by (have hq := hb1.size; (try simp at hq); omega))
  have hbel1 := Bel.step hb1 hbel0
  have HB1 := Blk.step hb1 HB
  have HU1 := Blk.step hb1 HU
  have HV1 := Blk.step hb1 HV
  have HX1 := Blk.step hb1 HX
  have HY1 := Blk.step hb1 HY
  have HI1 := Lib.hid (Ints.step hb1 HI.out)
  clear hb1 hc1 hf1 hz1 HB HU HV HX HY HI u0 u1 v0 v1
  have u0 : w1.cell? ⟨w.heap.size + 1, 0, none⟩ = some (.int .i64 ud) := by rw [HU1.cell]; rfl
  have u1 : w1.cell? ⟨w.heap.size + 1, 1, none⟩ = some (.int .i64 ut) := by rw [HU1.cell]; rfl
  have v0 : w1.cell? ⟨w.heap.size + 1 + 1, 0, none⟩ = some (.int .i64 vd) := by rw [HV1.cell]; rfl
  have v1 : w1.cell? ⟨w.heap.size + 1 + 1, 1, none⟩ = some (.int .i64 vt) := by rw [HV1.cell]; rfl
  have x0 : w1.cell? ⟨w.heap.size + 1 + 1 + 1, 0, none⟩ = some (.int .i64 0) := by rw [HX1.cell]; rfl
  have x1 : w1.cell? ⟨w.heap.size + 1 + 1 + 1, 1, none⟩ = some (.int .i64 0) := by rw [HX1.cell]; rfl
  have y0 : w1.cell? ⟨w.heap.size + 1 + 1 + 1 + 1, 0, none⟩ = some (.int .i64 0) := by rw [HY1.cell]; rfl
  have y1 : w1.cell? ⟨w.heap.size + 1 + 1 + 1 + 1, 1, none⟩ = some (.int .i64 0) := by rw [HY1.cell]; rfl
  have xf0 := HX1.frozen 0
  have xf1 := HX1.frozen 1
  have yf0 := HY1.frozen 0
  have yf1 := HY1.frozen 1
  by_cases hx : pkC R ud ut vd vt = 0
  rotate_left
  · have HT := Lib.hid (tp_no hx)
    have HX := Lib.hid (rl_no (R := R) (ud := ud) (ut := ut) (vd := vd) (vt := vt) (by rw [HT.out.1]; exact hx))
    have b1 : (pkC R ud ut vd vt != 0) = true := by simpa using hx
    have b2 : (pkC R ud ut vd vt == 0) = false := by simpa using hx
    clear hx
    go_wp2
    refine bodyPost_ret (v := .tuple #[.agg #[.int .i64 0, .int .i64 0], .agg #[.int .i64 0, .int .i64 0], .int .i64 (pkC R ud ut vd vt)]) (by simp [results, Tryz.results14, go_sem, *]) rfl ⟨by rw [HX.out.1, HX.out.2.1, HX.out.2.2.1, HX.out.2.2.2.1, HX.out.2.2.2.2, HT.out.1], by repeat (with_reducible first | exact Below.refl _ _ | assumption | refine Bel.alloc ?_ _ | refine Bel.step (by assumption) ?_ | refine Below.drew ?_ | refine Bel.drewN ?_ _ | refine Below.setCell ?_ (by first | exact Nat.le_refl _ | omega | (simp; done) | (simp; omega)) _)⟩
  have HP := Lib.hid hx
  have HK := Lib.hid (pkC_0 hx)
  rw [hx]
  clear hx
  go_wp2_with (refine wpList_load_blkG 32 _ _ HB1 Tryz.underlying32 (by kernel_rfl) rfl rfl (by rfl) ?_)
  go_at_call 63; refine (l27Covered_c _ _ _ _ _ _ _ HK.out.1 HK.out.2.1 HK.out.2.2 _).mono ?_; rintro e w2 ⟨rfl, hb2⟩; obtain ⟨hc2, hf2, hz2⟩ := bel hb2; (try simp only [World.size_drew, World.cell?_drew, World.frozen?_drew, World.heap_drewN, World.cell?_drewN, World.frozen?_drewN] at hc2 hf2 hz2); (try have hl2 : w.heap.size < w2.heap.size := zl hb2); (try have hm2 : w.heap.size + 1 < w2.heap.size := zl hb2); (try have hn2 : w.heap.size + 1 + 1 < w2.heap.size := zl hb2); (try have hp2 : b < w2.heap.size := zl hb2); (try have ho2 : b' < w2.heap.size := by (have hq := hb2.size; (try simp at hq); omega))
  have hbel2 := Bel.step hb2 hbel1
  have HB2 := Blk.step hb2 HB1
  have HU2 := Blk.step hb2 HU1
  have HV2 := Blk.step hb2 HV1
  have HX2 := Blk.step hb2 HX1
  have HY2 := Blk.step hb2 HY1
  have HI2 := Lib.hid (Ints.step hb2 HI1.out)
  clear hb2 hc2 hf2 hz2 HB1 HU1 HV1 HX1 HY1 HI1 u0 u1 v0 v1 x0 x1 y0 y1 xf0 xf1 yf0 yf1
  have u0 : w2.cell? ⟨w.heap.size + 1, 0, none⟩ = some (.int .i64 ud) := by rw [HU2.cell]; rfl
  have u1 : w2.cell? ⟨w.heap.size + 1, 1, none⟩ = some (.int .i64 ut) := by rw [HU2.cell]; rfl
  have v0 : w2.cell? ⟨w.heap.size + 1 + 1, 0, none⟩ = some (.int .i64 vd) := by rw [HV2.cell]; rfl
  have v1 : w2.cell? ⟨w.heap.size + 1 + 1, 1, none⟩ = some (.int .i64 vt) := by rw [HV2.cell]; rfl
  cases hc : cvR R ud ut vd vt
  · have HT := Lib.hid (tp_five HP.out hc)
    have HX := Lib.hid (rl_no (R := R) (ud := ud) (ut := ut) (vd := vd) (vt := vt) (by rw [HT.out.1]; decide))
    clear hc
    have x0 : w2.cell? ⟨w.heap.size + 1 + 1 + 1, 0, none⟩ = some (.int .i64 0) := by rw [HX2.cell]; rfl
    have x1 : w2.cell? ⟨w.heap.size + 1 + 1 + 1, 1, none⟩ = some (.int .i64 0) := by rw [HX2.cell]; rfl
    have y0 : w2.cell? ⟨w.heap.size + 1 + 1 + 1 + 1, 0, none⟩ = some (.int .i64 0) := by rw [HY2.cell]; rfl
    have y1 : w2.cell? ⟨w.heap.size + 1 + 1 + 1 + 1, 1, none⟩ = some (.int .i64 0) := by rw [HY2.cell]; rfl
    have xf0 := HX2.frozen 0
    have xf1 := HX2.frozen 1
    have yf0 := HY2.frozen 0
    have yf1 := HY2.frozen 1
    go_wp2
    refine bodyPost_ret (v := .tuple #[.agg #[.int .i64 0, .int .i64 0], .agg #[.int .i64 0, .int .i64 0], .int .i64 5]) (by simp [results, Tryz.results14, go_sem, *]) rfl ⟨by rw [HX.out.1, HX.out.2.1, HX.out.2.2.1, HX.out.2.2.2.1, HX.out.2.2.2.2, HT.out.1], by repeat (with_reducible first | exact Below.refl _ _ | assumption | refine Bel.alloc ?_ _ | refine Bel.step (by assumption) ?_ | refine Below.drew ?_ | refine Bel.drewN ?_ _ | refine Below.setCell ?_ (by first | exact Nat.le_refl _ | omega | (simp; done) | (simp; omega)) _)⟩
  have HT := Lib.hid (rl_0 (tp_0 HP.out hc).1)
  have HR := Lib.hid (okRe_iff HK.out.1)
  have hbo := inB_iff.1 HR.out.2.2.2.2.2.2.1
  obtain ⟨bo1, bo2⟩ := hbo
  obtain ⟨m1, m2, m3, m4⟩ := fm_bd HR.out.1 HK.out.2.1 HK.out.2.2
  have HF := Lib.hid (fm_two_u R.ch ud ut vd vt)
  have HAB := Lib.hid (show rlA R ud ut vd vt = fmL R.ch ud ut vd vt - R.bo ∧ rlB R ud ut vd vt = fmH R.ch ud ut vd vt + R.bo from ⟨rfl, rfl⟩)
  have HPS := Lib.hid (show okFs [(ud, ut), (vd, vt)] = true by rw [okFs_two, HK.out.2.1, HK.out.2.2]; rfl)
  clear hc
  have p0 : w2.cell? ⟨w.heap.size, 0, none⟩ = some (.int .i64 R.ch.dg) := by rw [HB2.cell]; rfl
  have p1 : w2.cell? ⟨w.heap.size, 1, none⟩ = some (.int .i64 R.ch.tn) := by rw [HB2.cell]; rfl
  have p2 : w2.cell? ⟨w.heap.size, 2, none⟩ = some (.string R.ch.nm) := by rw [HB2.cell]; rfl
  have p3 : w2.cell? ⟨w.heap.size, 3, none⟩ = some (.slice A R.ch.zs.length c) := by rw [HB2.cell]; rfl
  have p4 : w2.cell? ⟨w.heap.size, 4, none⟩ = some (.int .i64 R.ch.wd) := by rw [HB2.cell]; rfl
  have p5 : w2.cell? ⟨w.heap.size, 5, none⟩ = some (.int .i64 R.ch.lf) := by rw [HB2.cell]; rfl
  have p6 : w2.cell? ⟨w.heap.size, 6, none⟩ = some (.int .i64 R.ch.rt) := by rw [HB2.cell]; rfl
  have p7 : w2.cell? ⟨w.heap.size, 7, none⟩ = some (.int .i64 R.ad) := by rw [HB2.cell]; rfl
  have p8 : w2.cell? ⟨w.heap.size, 8, none⟩ = some (.int .i64 R.at_) := by rw [HB2.cell]; rfl
  have p9 : w2.cell? ⟨w.heap.size, 9, none⟩ = some (.int .i64 R.bd) := by rw [HB2.cell]; rfl
  have p10 : w2.cell? ⟨w.heap.size, 10, none⟩ = some (.int .i64 R.bt) := by rw [HB2.cell]; rfl
  have p11 : w2.cell? ⟨w.heap.size, 11, none⟩ = some (.int .i64 R.cd) := by rw [HB2.cell]; rfl
  have p12 : w2.cell? ⟨w.heap.size, 12, none⟩ = some (.int .i64 R.ct) := by rw [HB2.cell]; rfl
  have p13 : w2.cell? ⟨w.heap.size, 13, none⟩ = some (.int .i64 R.dd) := by rw [HB2.cell]; rfl
  have p14 : w2.cell? ⟨w.heap.size, 14, none⟩ = some (.int .i64 R.dt) := by rw [HB2.cell]; rfl
  have p15 : w2.cell? ⟨w.heap.size, 15, none⟩ = some (.int .i64 R.ey) := by rw [HB2.cell]; rfl
  have p16 : w2.cell? ⟨w.heap.size, 16, none⟩ = some (.int .i64 R.bo) := by rw [HB2.cell]; rfl
  go_wp2_with fail
  go_at_call 64; refine (l18Log_c _ _ _ _ _ [(ud, ut), (vd, vt)] HR.out.1 HPS.out (by simp) _ (by repeat (with_reducible first | exact HI2.out | assumption | refine Ints.drew ?_ | refine Ints.drewN _ ?_ | refine Ints.alloc _ ?_ | refine Ints.step (by assumption) ?_)) (Prs.mk2 _ _ _ _ _ _)).mono ?_; rintro r w3 ⟨rfl, hb3⟩
  have HB3 := Blk.step hb3 (Blk.alloc (.cells #[.int .i64 ud, .int .i64 ut, .int .i64 vd, .int .i64 vt] 25) HB2)
  have HX3 := Blk.step hb3 (Blk.alloc (.cells #[.int .i64 ud, .int .i64 ut, .int .i64 vd, .int .i64 vt] 25) HX2)
  have HY3 := Blk.step hb3 (Blk.alloc (.cells #[.int .i64 ud, .int .i64 ut, .int .i64 vd, .int .i64 vt] 25) HY2)
  have hbel3 : Below w.heap.size w w3 := by repeat (with_reducible first | exact Below.refl _ _ | assumption | refine Bel.alloc ?_ _ | refine Bel.step (by assumption) ?_ | refine Below.drew ?_ | refine Bel.drewN ?_ _ | refine Below.setCell ?_ (by first | exact Nat.le_refl _ | omega | (simp; done) | (simp; omega)) _)
  rw [HF.out.1, HF.out.2]
  clear hb3 HB2 HU2 HV2 HX2 HY2 u0 u1 v0 v1 p0 p1 p2 p3 p4 p5 p6 p7 p8 p9 p10 p11 p12 p13 p14 p15 p16
  have bl := HY3.lt
  have bl1 : w.heap.size + 1 + 1 + 1 < w3.heap.size := by omega
  have bl0 : w.heap.size < w3.heap.size := by omega
  have p16 : w3.cell? ⟨w.heap.size, 16, none⟩ = some (.int .i64 R.bo) := by rw [HB3.cell]; rfl
  generalize fmL R.ch ud ut vd vt = fl at *
  generalize fmH R.ch ud ut vd vt = fh at *
  go_wp2_with fail
  go_at_call 65; refine (l04Span_c _ _ _).mono ?_; rintro e w4 ⟨rfl, hb4⟩; obtain ⟨hc4, hf4, hz4⟩ := bel hb4; (try simp only [World.size_drew, World.cell?_drew, World.frozen?_drew, World.heap_drewN, World.cell?_drewN, World.frozen?_drewN] at hc4 hf4 hz4); (try have hl4 : w.heap.size < w4.heap.size := zl hb4); (try have hm4 : w.heap.size + 1 < w4.heap.size := zl hb4); (try have hn4 : w.heap.size + 1 + 1 < w4.heap.size := zl hb4); (try have hp4 : b < w4.heap.size := zl hb4); (try have ho4 : b' < w4.heap.size := by (have hq := hb4.size; (try simp at hq); omega))
  have hbel4 : Below w.heap.size w w4 := by repeat (with_reducible first | exact Below.refl _ _ | assumption | refine Bel.alloc ?_ _ | refine Bel.step (by assumption) ?_ | refine Below.drew ?_ | refine Bel.drewN ?_ _ | refine Below.setCell ?_ (by first | exact Nat.le_refl _ | omega | (simp; done) | (simp; omega)) _)
  have HX4 := Blk.step hb4 (Blk.alloc (.cells #[.int .i64 fl, .int .i64 fh] 92) HX3)
  have HY4 := Blk.step hb4 (Blk.alloc (.cells #[.int .i64 fl, .int .i64 fh] 92) HY3)
  clear hb4 hc4 hf4 hz4 HB3 HX3 HY3 p16
  have x0 : w4.cell? ⟨w.heap.size + 1 + 1 + 1, 0, none⟩ = some (.int .i64 0) := by rw [HX4.cell]; rfl
  have x1 : w4.cell? ⟨w.heap.size + 1 + 1 + 1, 1, none⟩ = some (.int .i64 0) := by rw [HX4.cell]; rfl
  have y0 : w4.cell? ⟨w.heap.size + 1 + 1 + 1 + 1, 0, none⟩ = some (.int .i64 0) := by rw [HY4.cell]; rfl
  have y1 : w4.cell? ⟨w.heap.size + 1 + 1 + 1 + 1, 1, none⟩ = some (.int .i64 0) := by rw [HY4.cell]; rfl
  have xf0 := HX4.frozen 0
  have xf1 := HX4.frozen 1
  have yf0 := HY4.frozen 0
  have yf1 := HY4.frozen 1
  rw [← HAB.out.1, ← HAB.out.2]
  generalize rlA R ud ut vd vt = a at *
  generalize rlB R ud ut vd vt = b at *
  go_wp2
  refine bodyPost_ret (v := .tuple #[.agg #[.int .i64 (spV a b (atD (nBw a))), .int .i64 (spV a b (atT (nBw a)))], .agg #[.int .i64 (spV a b (atD (nAb b))), .int .i64 (spV a b (atT (nAb b)))], .int .i64 (spC a b)]) (by simp [results, Tryz.results14, go_sem, *]) rfl ⟨by rw [HT.out.1, HT.out.2.1, HT.out.2.2.1, HT.out.2.2.2.1, HT.out.2.2.2.2], by repeat (with_reducible first | exact Below.refl _ _ | assumption | refine Bel.alloc ?_ _ | refine Bel.step (by assumption) ?_ | refine Below.drew ?_ | refine Bel.drewN ?_ _ | refine Below.setCell ?_ (by first | exact Nat.le_refl _ | omega | (simp; done) | (simp; omega)) _)⟩
theorem spread_c (a b e : Int) (h1 : -1000000000 ≤ a) (h2 : a ≤ 1000000000) (h3 : -1000000000 ≤ b) (h4 : b ≤ 1000000000) (h5 : 0 ≤ e) (h6 : e ≤ 1048576) (w : World) :
    Calls Tryz.prog 60 #[.agg #[.int .i64 a, .int .i64 b], .int .i64 e] w fun r w' => r = .returned (.agg #[.int .i64 (a - e), .int .i64 (b + e)]) ∧ Below w.heap.size w w' := by
  go_enter Tryz.func60, Tryz.ntmps60
  go_wp2
  refine bodyPost_ret (v := .agg #[.int .i64 (a - e), .int .i64 (b + e)]) (by simp [results, Tryz.results60, go_sem, *]) rfl ⟨rfl, by repeat (with_reducible first | exact Below.refl _ _ | assumption | refine Bel.alloc ?_ _ | refine Bel.step (by assumption) ?_ | refine Below.drew ?_ | refine Bel.drewN ?_ _ | refine Below.setCell ?_ (by first | exact Nat.le_refl _ | omega | (simp; done) | (simp; omega)) _)⟩
set_option maxRecDepth 50000 in
set_option maxHeartbeats 2000000 in
theorem ReadRelease_I (R : Re) (A : Option Addr) (c : Nat) (ud ut vd vt : Int) (hn : R.ch.zs.length ≤ 1048576) (hm : R.ch.nm.size ≤ 1048576) (w : World) (hA : Ints w A R.ch.zs) :
    Calls Tryz.prog 13 #[.agg #[.int .i64 R.ch.dg, .int .i64 R.ch.tn, .string R.ch.nm, .slice A R.ch.zs.length c, .int .i64 R.ch.wd, .int .i64 R.ch.lf, .int .i64 R.ch.rt, .int .i64 R.ad, .int .i64 R.at_, .int .i64 R.bd, .int .i64 R.bt, .int .i64 R.cd, .int .i64 R.ct, .int .i64 R.dd, .int .i64 R.dt, .int .i64 R.ey, .int .i64 R.bo], .agg #[.int .i64 ud, .int .i64 ut], .agg #[.int .i64 vd, .int .i64 vt]] w fun e w' => e = .returned (.tuple #[.agg #[.int .i64 (rl0 R ud ut vd vt), .int .i64 (rl1 R ud ut vd vt)], .agg #[.int .i64 (rl2 R ud ut vd vt), .int .i64 (rl3 R ud ut vd vt)], .int .i64 (rlC R ud ut vd vt)]) ∧ Below w.heap.size w w' := by
  go_enter Tryz.func13, Tryz.ntmps13
  go_upto_region 1 with (fail)
  have HB : Blk (((((w.alloc (.cells #[.int .i64 R.ch.dg, .int .i64 R.ch.tn, .string R.ch.nm, .slice A R.ch.zs.length c, .int .i64 R.ch.wd, .int .i64 R.ch.lf, .int .i64 R.ch.rt, .int .i64 R.ad, .int .i64 R.at_, .int .i64 R.bd, .int .i64 R.bt, .int .i64 R.cd, .int .i64 R.ct, .int .i64 R.dd, .int .i64 R.dt, .int .i64 R.ey, .int .i64 R.bo] 32)).alloc (.cells #[.int .i64 ud, .int .i64 ut] 25)).alloc (.cells #[.int .i64 vd, .int .i64 vt] 25)).alloc (.cells #[.int .i64 0, .int .i64 0] 25)).alloc (.cells #[.int .i64 0, .int .i64 0] 25)) (w.heap.size) 32 #[.int .i64 R.ch.dg, .int .i64 R.ch.tn, .string R.ch.nm, .slice A R.ch.zs.length c, .int .i64 R.ch.wd, .int .i64 R.ch.lf, .int .i64 R.ch.rt, .int .i64 R.ad, .int .i64 R.at_, .int .i64 R.bd, .int .i64 R.bt, .int .i64 R.cd, .int .i64 R.ct, .int .i64 R.dd, .int .i64 R.dt, .int .i64 R.ey, .int .i64 R.bo] := Blk.alloc _ (Blk.alloc _ (Blk.alloc _ (Blk.alloc _ (Blk.new _ _ _))))
  have HU : Blk (((((w.alloc (.cells #[.int .i64 R.ch.dg, .int .i64 R.ch.tn, .string R.ch.nm, .slice A R.ch.zs.length c, .int .i64 R.ch.wd, .int .i64 R.ch.lf, .int .i64 R.ch.rt, .int .i64 R.ad, .int .i64 R.at_, .int .i64 R.bd, .int .i64 R.bt, .int .i64 R.cd, .int .i64 R.ct, .int .i64 R.dd, .int .i64 R.dt, .int .i64 R.ey, .int .i64 R.bo] 32)).alloc (.cells #[.int .i64 ud, .int .i64 ut] 25)).alloc (.cells #[.int .i64 vd, .int .i64 vt] 25)).alloc (.cells #[.int .i64 0, .int .i64 0] 25)).alloc (.cells #[.int .i64 0, .int .i64 0] 25)) (w.heap.size + 1) 25 #[.int .i64 ud, .int .i64 ut] := Blk.alloc _ (Blk.alloc _ (Blk.alloc _ (by have h := Blk.new (w.alloc (.cells #[.int .i64 R.ch.dg, .int .i64 R.ch.tn, .string R.ch.nm, .slice A R.ch.zs.length c, .int .i64 R.ch.wd, .int .i64 R.ch.lf, .int .i64 R.ch.rt, .int .i64 R.ad, .int .i64 R.at_, .int .i64 R.bd, .int .i64 R.bt, .int .i64 R.cd, .int .i64 R.ct, .int .i64 R.dd, .int .i64 R.dt, .int .i64 R.ey, .int .i64 R.bo] 32)) 25 #[.int .i64 ud, .int .i64 ut]; simp only [World.size_alloc] at h; exact h)))
  have HV : Blk (((((w.alloc (.cells #[.int .i64 R.ch.dg, .int .i64 R.ch.tn, .string R.ch.nm, .slice A R.ch.zs.length c, .int .i64 R.ch.wd, .int .i64 R.ch.lf, .int .i64 R.ch.rt, .int .i64 R.ad, .int .i64 R.at_, .int .i64 R.bd, .int .i64 R.bt, .int .i64 R.cd, .int .i64 R.ct, .int .i64 R.dd, .int .i64 R.dt, .int .i64 R.ey, .int .i64 R.bo] 32)).alloc (.cells #[.int .i64 ud, .int .i64 ut] 25)).alloc (.cells #[.int .i64 vd, .int .i64 vt] 25)).alloc (.cells #[.int .i64 0, .int .i64 0] 25)).alloc (.cells #[.int .i64 0, .int .i64 0] 25)) (w.heap.size + 1 + 1) 25 #[.int .i64 vd, .int .i64 vt] := Blk.alloc _ (Blk.alloc _ (by have h := Blk.new ((w.alloc (.cells #[.int .i64 R.ch.dg, .int .i64 R.ch.tn, .string R.ch.nm, .slice A R.ch.zs.length c, .int .i64 R.ch.wd, .int .i64 R.ch.lf, .int .i64 R.ch.rt, .int .i64 R.ad, .int .i64 R.at_, .int .i64 R.bd, .int .i64 R.bt, .int .i64 R.cd, .int .i64 R.ct, .int .i64 R.dd, .int .i64 R.dt, .int .i64 R.ey, .int .i64 R.bo] 32)).alloc (.cells #[.int .i64 ud, .int .i64 ut] 25)) 25 #[.int .i64 vd, .int .i64 vt]; simp only [World.size_alloc] at h; exact h))
  have HX : Blk (((((w.alloc (.cells #[.int .i64 R.ch.dg, .int .i64 R.ch.tn, .string R.ch.nm, .slice A R.ch.zs.length c, .int .i64 R.ch.wd, .int .i64 R.ch.lf, .int .i64 R.ch.rt, .int .i64 R.ad, .int .i64 R.at_, .int .i64 R.bd, .int .i64 R.bt, .int .i64 R.cd, .int .i64 R.ct, .int .i64 R.dd, .int .i64 R.dt, .int .i64 R.ey, .int .i64 R.bo] 32)).alloc (.cells #[.int .i64 ud, .int .i64 ut] 25)).alloc (.cells #[.int .i64 vd, .int .i64 vt] 25)).alloc (.cells #[.int .i64 0, .int .i64 0] 25)).alloc (.cells #[.int .i64 0, .int .i64 0] 25)) (w.heap.size + 1 + 1 + 1) 25 #[.int .i64 0, .int .i64 0] := Blk.alloc _ (by have h := Blk.new (((w.alloc (.cells #[.int .i64 R.ch.dg, .int .i64 R.ch.tn, .string R.ch.nm, .slice A R.ch.zs.length c, .int .i64 R.ch.wd, .int .i64 R.ch.lf, .int .i64 R.ch.rt, .int .i64 R.ad, .int .i64 R.at_, .int .i64 R.bd, .int .i64 R.bt, .int .i64 R.cd, .int .i64 R.ct, .int .i64 R.dd, .int .i64 R.dt, .int .i64 R.ey, .int .i64 R.bo] 32)).alloc (.cells #[.int .i64 ud, .int .i64 ut] 25)).alloc (.cells #[.int .i64 vd, .int .i64 vt] 25)) 25 #[.int .i64 0, .int .i64 0]; simp only [World.size_alloc] at h; exact h)
  have HY : Blk (((((w.alloc (.cells #[.int .i64 R.ch.dg, .int .i64 R.ch.tn, .string R.ch.nm, .slice A R.ch.zs.length c, .int .i64 R.ch.wd, .int .i64 R.ch.lf, .int .i64 R.ch.rt, .int .i64 R.ad, .int .i64 R.at_, .int .i64 R.bd, .int .i64 R.bt, .int .i64 R.cd, .int .i64 R.ct, .int .i64 R.dd, .int .i64 R.dt, .int .i64 R.ey, .int .i64 R.bo] 32)).alloc (.cells #[.int .i64 ud, .int .i64 ut] 25)).alloc (.cells #[.int .i64 vd, .int .i64 vt] 25)).alloc (.cells #[.int .i64 0, .int .i64 0] 25)).alloc (.cells #[.int .i64 0, .int .i64 0] 25)) (w.heap.size + 1 + 1 + 1 + 1) 25 #[.int .i64 0, .int .i64 0] := by have h := Blk.new ((((w.alloc (.cells #[.int .i64 R.ch.dg, .int .i64 R.ch.tn, .string R.ch.nm, .slice A R.ch.zs.length c, .int .i64 R.ch.wd, .int .i64 R.ch.lf, .int .i64 R.ch.rt, .int .i64 R.ad, .int .i64 R.at_, .int .i64 R.bd, .int .i64 R.bt, .int .i64 R.cd, .int .i64 R.ct, .int .i64 R.dd, .int .i64 R.dt, .int .i64 R.ey, .int .i64 R.bo] 32)).alloc (.cells #[.int .i64 ud, .int .i64 ut] 25)).alloc (.cells #[.int .i64 vd, .int .i64 vt] 25)).alloc (.cells #[.int .i64 0, .int .i64 0] 25)) 25 #[.int .i64 0, .int .i64 0]; simp only [World.size_alloc] at h; exact h
  have hbel0 : Below w.heap.size w (((((w.alloc (.cells #[.int .i64 R.ch.dg, .int .i64 R.ch.tn, .string R.ch.nm, .slice A R.ch.zs.length c, .int .i64 R.ch.wd, .int .i64 R.ch.lf, .int .i64 R.ch.rt, .int .i64 R.ad, .int .i64 R.at_, .int .i64 R.bd, .int .i64 R.bt, .int .i64 R.cd, .int .i64 R.ct, .int .i64 R.dd, .int .i64 R.dt, .int .i64 R.ey, .int .i64 R.bo] 32)).alloc (.cells #[.int .i64 ud, .int .i64 ut] 25)).alloc (.cells #[.int .i64 vd, .int .i64 vt] 25)).alloc (.cells #[.int .i64 0, .int .i64 0] 25)).alloc (.cells #[.int .i64 0, .int .i64 0] 25)) := by repeat (with_reducible first | exact Below.refl _ _ | assumption | refine Bel.alloc ?_ _ | refine Bel.step (by assumption) ?_ | refine Below.drew ?_ | refine Bel.drewN ?_ _ | refine Below.setCell ?_ (by first | exact Nat.le_refl _ | omega | (simp; done) | (simp; omega)) _)
  have HI := Lib.hid (Ints.step hbel0 hA)
  generalize ((((w.alloc (.cells #[.int .i64 R.ch.dg, .int .i64 R.ch.tn, .string R.ch.nm, .slice A R.ch.zs.length c, .int .i64 R.ch.wd, .int .i64 R.ch.lf, .int .i64 R.ch.rt, .int .i64 R.ad, .int .i64 R.at_, .int .i64 R.bd, .int .i64 R.bt, .int .i64 R.cd, .int .i64 R.ct, .int .i64 R.dd, .int .i64 R.dt, .int .i64 R.ey, .int .i64 R.bo] 32)).alloc (.cells #[.int .i64 ud, .int .i64 ut] 25)).alloc (.cells #[.int .i64 vd, .int .i64 vt] 25)).alloc (.cells #[.int .i64 0, .int .i64 0] 25)).alloc (.cells #[.int .i64 0, .int .i64 0] 25) = w0 at HB HU HV HX HY hbel0 HI ⊢
  have u0 : w0.cell? ⟨w.heap.size + 1, 0, none⟩ = some (.int .i64 ud) := by rw [HU.cell]; rfl
  have u1 : w0.cell? ⟨w.heap.size + 1, 1, none⟩ = some (.int .i64 ut) := by rw [HU.cell]; rfl
  have v0 : w0.cell? ⟨w.heap.size + 1 + 1, 0, none⟩ = some (.int .i64 vd) := by rw [HV.cell]; rfl
  have v1 : w0.cell? ⟨w.heap.size + 1 + 1, 1, none⟩ = some (.int .i64 vt) := by rw [HV.cell]; rfl
  go_wp2_with (refine wpList_load_blkG 32 _ _ HB Tryz.underlying32 (by kernel_rfl) rfl rfl (by rfl) ?_)
  go_at_call 57; refine (checkPair_c _ _ _ _ _ _ _ hn hm _ (by repeat (with_reducible first | exact HI.out | assumption | refine Ints.drew ?_ | refine Ints.drewN _ ?_ | refine Ints.alloc _ ?_ | refine Ints.step (by assumption) ?_))).mono ?_; rintro e w1 ⟨rfl, hb1⟩; obtain ⟨hc1, hf1, hz1⟩ := bel hb1; (try simp only [World.size_drew, World.cell?_drew, World.frozen?_drew, World.heap_drewN, World.cell?_drewN, World.frozen?_drewN] at hc1 hf1 hz1); (try have hl1 : w.heap.size < w1.heap.size := zl hb1); (try have hm1 : w.heap.size + 1 < w1.heap.size := zl hb1); (try have hn1 : w.heap.size + 1 + 1 < w1.heap.size := zl hb1); (try have hp1 : b < w1.heap.size := zl hb1); (try have ho1 : b' < w1.heap.size := by (have hq := hb1.size; (try simp at hq); omega))
  have hbel1 := Bel.step hb1 hbel0
  have HB1 := Blk.step hb1 HB
  have HU1 := Blk.step hb1 HU
  have HV1 := Blk.step hb1 HV
  have HX1 := Blk.step hb1 HX
  have HY1 := Blk.step hb1 HY
  have HI1 := Lib.hid (Ints.step hb1 HI.out)
  clear hb1 hc1 hf1 hz1 HB HU HV HX HY HI u0 u1 v0 v1
  have u0 : w1.cell? ⟨w.heap.size + 1, 0, none⟩ = some (.int .i64 ud) := by rw [HU1.cell]; rfl
  have u1 : w1.cell? ⟨w.heap.size + 1, 1, none⟩ = some (.int .i64 ut) := by rw [HU1.cell]; rfl
  have v0 : w1.cell? ⟨w.heap.size + 1 + 1, 0, none⟩ = some (.int .i64 vd) := by rw [HV1.cell]; rfl
  have v1 : w1.cell? ⟨w.heap.size + 1 + 1, 1, none⟩ = some (.int .i64 vt) := by rw [HV1.cell]; rfl
  have x0 : w1.cell? ⟨w.heap.size + 1 + 1 + 1, 0, none⟩ = some (.int .i64 0) := by rw [HX1.cell]; rfl
  have x1 : w1.cell? ⟨w.heap.size + 1 + 1 + 1, 1, none⟩ = some (.int .i64 0) := by rw [HX1.cell]; rfl
  have y0 : w1.cell? ⟨w.heap.size + 1 + 1 + 1 + 1, 0, none⟩ = some (.int .i64 0) := by rw [HY1.cell]; rfl
  have y1 : w1.cell? ⟨w.heap.size + 1 + 1 + 1 + 1, 1, none⟩ = some (.int .i64 0) := by rw [HY1.cell]; rfl
  have xf0 := HX1.frozen 0
  have xf1 := HX1.frozen 1
  have yf0 := HY1.frozen 0
  have yf1 := HY1.frozen 1
  by_cases hx : pkC R ud ut vd vt = 0
  rotate_left
  · have HT := Lib.hid (tp_no hx)
    have HX := Lib.hid (rl_no (R := R) (ud := ud) (ut := ut) (vd := vd) (vt := vt) (by rw [HT.out.1]; exact hx))
    have b1 : (pkC R ud ut vd vt != 0) = true := by simpa using hx
    have b2 : (pkC R ud ut vd vt == 0) = false := by simpa using hx
    clear hx
    go_wp2
    refine bodyPost_ret (v := .tuple #[.agg #[.int .i64 0, .int .i64 0], .agg #[.int .i64 0, .int .i64 0], .int .i64 (pkC R ud ut vd vt)]) (by simp [results, Tryz.results13, go_sem, *]) rfl ⟨by rw [HX.out.1, HX.out.2.1, HX.out.2.2.1, HX.out.2.2.2.1, HX.out.2.2.2.2, HT.out.1], by repeat (with_reducible first | exact Below.refl _ _ | assumption | refine Bel.alloc ?_ _ | refine Bel.step (by assumption) ?_ | refine Below.drew ?_ | refine Bel.drewN ?_ _ | refine Below.setCell ?_ (by first | exact Nat.le_refl _ | omega | (simp; done) | (simp; omega)) _)⟩
  have HP := Lib.hid hx
  have HK := Lib.hid (pkC_0 hx)
  rw [hx]
  clear hx
  go_wp2_with (refine wpList_load_blkG 32 _ _ HB1 Tryz.underlying32 (by kernel_rfl) rfl rfl (by rfl) ?_)
  go_at_call 58; refine (isCovered_c _ _ _ _ _ _ _ HK.out.1 HK.out.2.1 HK.out.2.2 _).mono ?_; rintro e w2 ⟨rfl, hb2⟩; obtain ⟨hc2, hf2, hz2⟩ := bel hb2; (try simp only [World.size_drew, World.cell?_drew, World.frozen?_drew, World.heap_drewN, World.cell?_drewN, World.frozen?_drewN] at hc2 hf2 hz2); (try have hl2 : w.heap.size < w2.heap.size := zl hb2); (try have hm2 : w.heap.size + 1 < w2.heap.size := zl hb2); (try have hn2 : w.heap.size + 1 + 1 < w2.heap.size := zl hb2); (try have hp2 : b < w2.heap.size := zl hb2); (try have ho2 : b' < w2.heap.size := by (have hq := hb2.size; (try simp at hq); omega))
  have hbel2 := Bel.step hb2 hbel1
  have HB2 := Blk.step hb2 HB1
  have HU2 := Blk.step hb2 HU1
  have HV2 := Blk.step hb2 HV1
  have HX2 := Blk.step hb2 HX1
  have HY2 := Blk.step hb2 HY1
  have HI2 := Lib.hid (Ints.step hb2 HI1.out)
  clear hb2 hc2 hf2 hz2 HB1 HU1 HV1 HX1 HY1 HI1 u0 u1 v0 v1 x0 x1 y0 y1 xf0 xf1 yf0 yf1
  have u0 : w2.cell? ⟨w.heap.size + 1, 0, none⟩ = some (.int .i64 ud) := by rw [HU2.cell]; rfl
  have u1 : w2.cell? ⟨w.heap.size + 1, 1, none⟩ = some (.int .i64 ut) := by rw [HU2.cell]; rfl
  have v0 : w2.cell? ⟨w.heap.size + 1 + 1, 0, none⟩ = some (.int .i64 vd) := by rw [HV2.cell]; rfl
  have v1 : w2.cell? ⟨w.heap.size + 1 + 1, 1, none⟩ = some (.int .i64 vt) := by rw [HV2.cell]; rfl
  cases hc : cvR R ud ut vd vt
  · have HT := Lib.hid (tp_five HP.out hc)
    have HX := Lib.hid (rl_no (R := R) (ud := ud) (ut := ut) (vd := vd) (vt := vt) (by rw [HT.out.1]; decide))
    clear hc
    have x0 : w2.cell? ⟨w.heap.size + 1 + 1 + 1, 0, none⟩ = some (.int .i64 0) := by rw [HX2.cell]; rfl
    have x1 : w2.cell? ⟨w.heap.size + 1 + 1 + 1, 1, none⟩ = some (.int .i64 0) := by rw [HX2.cell]; rfl
    have y0 : w2.cell? ⟨w.heap.size + 1 + 1 + 1 + 1, 0, none⟩ = some (.int .i64 0) := by rw [HY2.cell]; rfl
    have y1 : w2.cell? ⟨w.heap.size + 1 + 1 + 1 + 1, 1, none⟩ = some (.int .i64 0) := by rw [HY2.cell]; rfl
    have xf0 := HX2.frozen 0
    have xf1 := HX2.frozen 1
    have yf0 := HY2.frozen 0
    have yf1 := HY2.frozen 1
    go_wp2
    refine bodyPost_ret (v := .tuple #[.agg #[.int .i64 0, .int .i64 0], .agg #[.int .i64 0, .int .i64 0], .int .i64 5]) (by simp [results, Tryz.results13, go_sem, *]) rfl ⟨by rw [HX.out.1, HX.out.2.1, HX.out.2.2.1, HX.out.2.2.2.1, HX.out.2.2.2.2, HT.out.1], by repeat (with_reducible first | exact Below.refl _ _ | assumption | refine Bel.alloc ?_ _ | refine Bel.step (by assumption) ?_ | refine Below.drew ?_ | refine Bel.drewN ?_ _ | refine Below.setCell ?_ (by first | exact Nat.le_refl _ | omega | (simp; done) | (simp; omega)) _)⟩
  have HT := Lib.hid (rl_0 (tp_0 HP.out hc).1)
  have HR := Lib.hid (okRe_iff HK.out.1)
  have hbo := inB_iff.1 HR.out.2.2.2.2.2.2.1
  obtain ⟨bo1, bo2⟩ := hbo
  obtain ⟨m1, m2, m3, m4⟩ := fm_bd HR.out.1 HK.out.2.1 HK.out.2.2
  have HF := Lib.hid (fm_two_u R.ch ud ut vd vt)
  have HAB := Lib.hid (show rlA R ud ut vd vt = fmL R.ch ud ut vd vt - R.bo ∧ rlB R ud ut vd vt = fmH R.ch ud ut vd vt + R.bo from ⟨rfl, rfl⟩)
  have HPS := Lib.hid (show okFs [(ud, ut), (vd, vt)] = true by rw [okFs_two, HK.out.2.1, HK.out.2.2]; rfl)
  clear hc
  clear u0 u1 v0 v1
  go_wp2
  refine wp_region_held_drew (S := fun W => Blk W w.heap.size 32 #[.int .i64 R.ch.dg, .int .i64 R.ch.tn, .string R.ch.nm, .slice A R.ch.zs.length c, .int .i64 R.ch.wd, .int .i64 R.ch.lf, .int .i64 R.ch.rt, .int .i64 R.ad, .int .i64 R.at_, .int .i64 R.bd, .int .i64 R.bt, .int .i64 R.cd, .int .i64 R.ct, .int .i64 R.dd, .int .i64 R.dt, .int .i64 R.ey, .int .i64 R.bo] ∧ Blk W (w.heap.size + 1) 25 #[.int .i64 ud, .int .i64 ut] ∧ Blk W (w.heap.size + 1 + 1) 25 #[.int .i64 vd, .int .i64 vt]) (by kernel_rfl) (⟨Blk.drew HB2, Blk.drew HU2, Blk.drew HV2⟩) (fun hHeld => ?_)
  have hbelA : Below w.heap.size w w2.drew := Below.drew hbel2
  have HIA : Ints w2.drew A R.ch.zs := HI2.out
  have HXA : Blk w2.drew (w.heap.size + 1 + 1 + 1) 25 #[.int .i64 0, .int .i64 0] := HX2
  have HYA : Blk w2.drew (w.heap.size + 1 + 1 + 1 + 1) 25 #[.int .i64 0, .int .i64 0] := HY2
  generalize w2.drew = wA at hbelA HIA HXA HYA hHeld ⊢
  clear HB2 HU2 HV2 HI2 HX2 HY2
  refine wpAnyH_take (i := 0) (v := (.pointer (some ⟨w.heap.size, 0, none⟩))) rfl (by kernel_rfl) (by kernel_rfl) (by kernel_rfl) (fun _ _ _ h => h) (Or.inl ⟨by rfl, fun w _ => by simp [go_sem, execOp]⟩) hHeld ?_
  try simp only [Act.put, List.setIfInBounds_toArray, List.set_cons_zero, List.set_cons_succ]
  refine wpAnyH_take (i := 1) (v := (.pointer (some ⟨w.heap.size, 0, none⟩))) rfl (by kernel_rfl) (by kernel_rfl) (by kernel_rfl) (fun _ _ _ h => h) (Or.inl ⟨by rfl, fun w _ => by simp [go_sem, execOp]⟩) hHeld ?_
  try simp only [Act.put, List.setIfInBounds_toArray, List.set_cons_zero, List.set_cons_succ]
  refine wpAnyH_take (i := 2) (v := .agg #[.int .i64 R.ch.dg, .int .i64 R.ch.tn, .string R.ch.nm, .slice A R.ch.zs.length c]) rfl (by kernel_rfl) (by kernel_rfl) (by kernel_rfl) (fun _ _ _ h => h) (yieldsIf_load_part 28 _ (w.heap.size) 0 [.int .i64 R.ch.dg, .int .i64 R.ch.tn, .string R.ch.nm, .slice A R.ch.zs.length c] (fun _ h => h.1) rfl Tryz.underlying28 (by kernel_rfl) (by rfl) rfl rfl) hHeld ?_
  try simp only [Act.put, List.setIfInBounds_toArray, List.set_cons_zero, List.set_cons_succ]
  refine wpAnyH_take (i := 3) (v := .agg #[.int .i64 ud, .int .i64 ut]) rfl (by kernel_rfl) (by kernel_rfl) (by kernel_rfl) (fun _ _ _ h => h) (yieldsIf_load_blk 25 _ (w.heap.size + 1) (fun _ h => h.2.1) Tryz.underlying25 (by kernel_rfl) (by rfl) rfl rfl) hHeld ?_
  try simp only [Act.put, List.setIfInBounds_toArray, List.set_cons_zero, List.set_cons_succ]
  refine wpAnyH_take (i := 4) (v := .agg #[.int .i64 vd, .int .i64 vt]) rfl (by kernel_rfl) (by kernel_rfl) (by kernel_rfl) (fun _ _ _ h => h) (yieldsIf_load_blk 25 _ (w.heap.size + 1 + 1) (fun _ h => h.2.2) Tryz.underlying25 (by kernel_rfl) (by rfl) rfl rfl) hHeld ?_
  try simp only [Act.put, List.setIfInBounds_toArray, List.set_cons_zero, List.set_cons_succ]
  refine wpAnyH_take (i := 7) (v := (.pointer (some ⟨w.heap.size, 16, none⟩))) rfl (by kernel_rfl) (by kernel_rfl) (by kernel_rfl) (fun _ _ _ h => h) (Or.inl ⟨by rfl, fun w _ => by simp [go_sem, execOp]⟩) hHeld ?_
  try simp only [Act.put, List.setIfInBounds_toArray, List.set_cons_zero, List.set_cons_succ]
  refine wpAnyH_take (i := 8) (v := .int .i64 R.bo) rfl (by kernel_rfl) (by kernel_rfl) (by kernel_rfl) (fun _ _ _ h => h) (Or.inl ⟨by rfl, fun w' h => by have q : w'.cell? ⟨w.heap.size, 16, none⟩ = some (.int .i64 R.bo) := (by rw [(h.1).cell]; rfl); simp [go_sem, execOp, q]⟩) hHeld ?_
  try simp only [Act.put, List.setIfInBounds_toArray, List.set_cons_zero, List.set_cons_succ]
  refine wpAnyH_ready (rs := [5]) (by kernel_rfl) (by simp) ?_
  refine AllReadyH.cons rfl (fun K hK => ?_) AllReadyH.nil
  go_simp
  refine hK.out _ _ (⟨Blk.alloc _ hHeld.1, Blk.alloc _ hHeld.2.1, Blk.alloc _ hHeld.2.2⟩) (fun hHeld => ?_)
  clear hK K
  try simp only [Act.put, List.setIfInBounds_toArray, List.set_cons_zero, List.set_cons_succ]
  refine wpAnyH_ready (rs := [6]) (by kernel_rfl) (by simp) ?_
  refine AllReadyH.cons rfl (fun K hK => ?_) AllReadyH.nil
  go_simp
  go_at_call 61; refine (formulaLog_c _ _ _ _ _ [(ud, ut), (vd, vt)] HR.out.1 HPS.out (by simp) _ (Ints.alloc _ HIA) (Prs.mk2 _ _ _ _ _ _)).mono ?_; rintro e w3 ⟨rfl, hb3⟩; obtain ⟨hc3, hf3, hz3⟩ := bel hb3; (try simp only [World.size_drew, World.cell?_drew, World.frozen?_drew, World.heap_drewN, World.cell?_drewN, World.frozen?_drewN] at hc3 hf3 hz3); (try have hl3 : w.heap.size < w3.heap.size := zl hb3); (try have hm3 : w.heap.size + 1 < w3.heap.size := zl hb3); (try have hn3 : w.heap.size + 1 + 1 < w3.heap.size := zl hb3); (try have hp3 : b < w3.heap.size := zl hb3); (try have ho3 : b' < w3.heap.size := by (have hq := hb3.size; (try simp at hq); omega))
  go_wp2_with fail
  refine hK.out _ _ (⟨Blk.step hb3 hHeld.1, Blk.step hb3 hHeld.2.1, Blk.step hb3 hHeld.2.2⟩) (fun hHeld => ?_)
  clear hK K
  try simp only [Act.put, List.setIfInBounds_toArray, List.set_cons_zero, List.set_cons_succ]
  rw [show (fmT R.ch [(ud, ut), (vd, vt)] 2).1 = fmL R.ch ud ut vd vt from rfl, show (fmT R.ch [(ud, ut), (vd, vt)] 2).2 = fmH R.ch ud ut vd vt from rfl]
  have hbel3 : Below w.heap.size w w3 := by repeat (with_reducible first | exact Below.refl _ _ | assumption | refine Bel.alloc ?_ _ | refine Bel.step (by assumption) ?_ | refine Below.drew ?_ | refine Bel.drewN ?_ _ | refine Below.setCell ?_ (by first | exact Nat.le_refl _ | omega | (simp; done) | (simp; omega)) _)
  have HX3 := Blk.step hb3 (Blk.alloc (.cells #[.int .i64 ud, .int .i64 ut, .int .i64 vd, .int .i64 vt] 25) HXA)
  have HY3 := Blk.step hb3 (Blk.alloc (.cells #[.int .i64 ud, .int .i64 ut, .int .i64 vd, .int .i64 vt] 25) HYA)
  clear hb3 hc3 hf3 hz3 HXA HYA HIA
  generalize fmL R.ch ud ut vd vt = fl at *
  generalize fmH R.ch ud ut vd vt = fh at *
  refine wpAnyH_ready (rs := [9]) (by kernel_rfl) (by simp) ?_
  refine AllReadyH.cons rfl (fun K hK => ?_) AllReadyH.nil
  go_simp
  go_at_call 60; refine (spread_c _ _ _ m1 m2 m3 m4 bo1 bo2 _).mono ?_; rintro e w4 ⟨rfl, hb4⟩; obtain ⟨hc4, hf4, hz4⟩ := bel hb4; (try simp only [World.size_drew, World.cell?_drew, World.frozen?_drew, World.heap_drewN, World.cell?_drewN, World.frozen?_drewN] at hc4 hf4 hz4); (try have hl4 : w.heap.size < w4.heap.size := zl hb4); (try have hm4 : w.heap.size + 1 < w4.heap.size := zl hb4); (try have hn4 : w.heap.size + 1 + 1 < w4.heap.size := zl hb4); (try have hp4 : b < w4.heap.size := zl hb4); (try have ho4 : b' < w4.heap.size := by (have hq := hb4.size; (try simp at hq); omega))
  go_wp2_with fail
  refine hK.out _ _ (⟨Blk.step hb4 hHeld.1, Blk.step hb4 hHeld.2.1, Blk.step hb4 hHeld.2.2⟩) (fun hHeld => ?_)
  clear hK K
  try simp only [Act.put, List.setIfInBounds_toArray, List.set_cons_zero, List.set_cons_succ]
  have hbel4 := Bel.step hb4 hbel3
  have HX4 := Blk.step hb4 HX3
  have HY4 := Blk.step hb4 HY3
  clear hb4 hc4 hf4 hz4 HX3 HY3
  rw [← HAB.out.1, ← HAB.out.2]
  refine wpAnyH_ready (rs := [10]) (by kernel_rfl) (by simp) ?_
  refine AllReadyH.cons rfl (fun K hK => ?_) AllReadyH.nil
  go_simp
  go_at_call 59; refine (spanOf_c _ _ _).mono ?_; rintro e w5 ⟨rfl, hb5⟩; obtain ⟨hc5, hf5, hz5⟩ := bel hb5; (try simp only [World.size_drew, World.cell?_drew, World.frozen?_drew, World.heap_drewN, World.cell?_drewN, World.frozen?_drewN] at hc5 hf5 hz5); (try have hl5 : w.heap.size < w5.heap.size := zl hb5); (try have hm5 : w.heap.size + 1 < w5.heap.size := zl hb5); (try have hn5 : w.heap.size + 1 + 1 < w5.heap.size := zl hb5); (try have hp5 : b < w5.heap.size := zl hb5); (try have ho5 : b' < w5.heap.size := by (have hq := hb5.size; (try simp at hq); omega))
  go_wp2_with fail
  refine hK.out _ _ (⟨Blk.step hb5 hHeld.1, Blk.step hb5 hHeld.2.1, Blk.step hb5 hHeld.2.2⟩) (fun hHeld => ?_)
  clear hK K
  try simp only [Act.put, List.setIfInBounds_toArray, List.set_cons_zero, List.set_cons_succ]
  have hbel5 := Bel.step hb5 hbel4
  have HX5 := Blk.step hb5 HX4
  have HY5 := Blk.step hb5 HY4
  clear hb5 hc5 hf5 hz5 HX4 HY4
  generalize rlA R ud ut vd vt = a at *
  generalize rlB R ud ut vd vt = b at *
  refine wpAnyH_take (i := 11) (v := (.agg #[.int .i64 (spV a b (atD (nBw a))), .int .i64 (spV a b (atT (nBw a)))])) rfl (by kernel_rfl) (by kernel_rfl) (by kernel_rfl) (fun _ _ _ h => h) (Or.inl ⟨by rfl, fun w _ => by simp [go_sem, execOp]⟩) hHeld ?_
  try simp only [Act.put, List.setIfInBounds_toArray, List.set_cons_zero, List.set_cons_succ]
  refine wpAnyH_take (i := 12) (v := (.agg #[.int .i64 (spV a b (atD (nAb b))), .int .i64 (spV a b (atT (nAb b)))])) rfl (by kernel_rfl) (by kernel_rfl) (by kernel_rfl) (fun _ _ _ h => h) (Or.inl ⟨by rfl, fun w _ => by simp [go_sem, execOp]⟩) hHeld ?_
  try simp only [Act.put, List.setIfInBounds_toArray, List.set_cons_zero, List.set_cons_succ]
  refine wpAnyH_take (i := 13) (v := (.int .i64 (spC a b))) rfl (by kernel_rfl) (by kernel_rfl) (by kernel_rfl) (fun _ _ _ h => h) (Or.inl ⟨by rfl, fun w _ => by simp [go_sem, execOp]⟩) hHeld ?_
  try simp only [Act.put, List.setIfInBounds_toArray, List.set_cons_zero, List.set_cons_succ]
  have x0 : w5.cell? ⟨w.heap.size + 1 + 1 + 1, 0, none⟩ = some (.int .i64 0) := by rw [HX5.cell]; rfl
  have x1 : w5.cell? ⟨w.heap.size + 1 + 1 + 1, 1, none⟩ = some (.int .i64 0) := by rw [HX5.cell]; rfl
  have y0 : w5.cell? ⟨w.heap.size + 1 + 1 + 1 + 1, 0, none⟩ = some (.int .i64 0) := by rw [HY5.cell]; rfl
  have y1 : w5.cell? ⟨w.heap.size + 1 + 1 + 1 + 1, 1, none⟩ = some (.int .i64 0) := by rw [HY5.cell]; rfl
  have xf0 := HX5.frozen 0
  have xf1 := HX5.frozen 1
  have yf0 := HY5.frozen 0
  have yf1 := HY5.frozen 1
  refine wpAnyH_ready (rs := [14]) (by kernel_rfl) (by simp) ?_
  refine AllReadyH.cons rfl (fun K hK => ?_) AllReadyH.nil
  go_simp
  refine hK.out _ _ (⟨(by repeat (with_reducible first | exact hHeld.1 | refine Blk.far _ (by first | (simp; done) | (simp; omega)) ?_)), (by repeat (with_reducible first | exact hHeld.2.1 | refine Blk.far _ (by first | (simp; done) | (simp; omega)) ?_)), (by repeat (with_reducible first | exact hHeld.2.2 | refine Blk.far _ (by first | (simp; done) | (simp; omega)) ?_))⟩) (fun hHeld => ?_)
  clear hK K
  try simp only [Act.put, List.setIfInBounds_toArray, List.set_cons_zero, List.set_cons_succ]
  refine wpAnyH_ready (rs := [15]) (by kernel_rfl) (by simp) ?_
  refine AllReadyH.cons rfl (fun K hK => ?_) AllReadyH.nil
  go_simp
  refine hK.out _ _ (⟨(by repeat (with_reducible first | exact hHeld.1 | refine Blk.far _ (by first | (simp; done) | (simp; omega)) ?_)), (by repeat (with_reducible first | exact hHeld.2.1 | refine Blk.far _ (by first | (simp; done) | (simp; omega)) ?_)), (by repeat (with_reducible first | exact hHeld.2.2 | refine Blk.far _ (by first | (simp; done) | (simp; omega)) ?_))⟩) (fun hHeld => ?_)
  clear hK K
  try simp only [Act.put, List.setIfInBounds_toArray, List.set_cons_zero, List.set_cons_succ]
  refine wpAnyH_take (i := 16) (v := (.int .i64 (spC a b))) rfl (by kernel_rfl) (by kernel_rfl) (by kernel_rfl) (fun _ _ _ h => h) (Or.inl ⟨by rfl, fun w _ => by simp [go_sem, execOp]⟩) hHeld ?_
  simp only [Act.put, List.getElem_toArray, List.getElem_cons_succ, List.getElem_cons_zero, List.setIfInBounds_toArray, List.set_cons_zero, List.set_cons_succ]
  refine wpAnyH_done (by kernel_rfl) ?_ _
  go_wp2
  refine bodyPost_ret (v := .tuple #[.agg #[.int .i64 (spV a b (atD (nBw a))), .int .i64 (spV a b (atT (nBw a)))], .agg #[.int .i64 (spV a b (atD (nAb b))), .int .i64 (spV a b (atT (nAb b)))], .int .i64 (spC a b)]) (by simp [results, Tryz.results13, go_sem, *]) rfl ⟨by rw [HT.out.1, HT.out.2.1, HT.out.2.2.1, HT.out.2.2.2.1, HT.out.2.2.2.2], by repeat (with_reducible first | exact Below.refl _ _ | assumption | refine Bel.alloc ?_ _ | refine Bel.step (by assumption) ?_ | refine Below.drew ?_ | refine Bel.drewN ?_ _ | refine Below.setCell ?_ (by first | exact Nat.le_refl _ | omega | (simp; done) | (simp; omega)) _)⟩
end Go.Proofs.YtpmcgicopogbhaaGreat
