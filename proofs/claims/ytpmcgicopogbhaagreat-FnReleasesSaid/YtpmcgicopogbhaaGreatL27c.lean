/- Chapter 27: covered pairs and kept releases. Conditions: as stated at each contract. -/
import Derived.Test.YtpmcgicopogbhaaGreatProg
import Derived.Test.YtpmcgicopogbhaaGreatBase
import Derived.Test.YtpmcgicopogbhaaGreatZy
import Derived.Test.YtpmcgicopogbhaaGreatRw
import Derived.Test.YtpmcgicopogbhaaGreatL01
import Derived.Test.YtpmcgicopogbhaaGreatCp
import Derived.Test.YtpmcgicopogbhaaGreatL18
import Derived.Test.YtpmcgicopogbhaaGreatL23
import Derived.Test.YtpmcgicopogbhaaGreatL03
import Derived.Test.YtpmcgicopogbhaaGreatL23d
import Derived.Test.YtpmcgicopogbhaaGreatL23e
import Derived.Test.YtpmcgicopogbhaaGreatL24
import Derived.Test.YtpmcgicopogbhaaGreatL24b
import Derived.Test.YtpmcgicopogbhaaGreatL23g
import Derived.Test.YtpmcgicopogbhaaGreatL23h
import Derived.Test.YtpmcgicopogbhaaGreatL27o
import Derived.Test.YtpmcgicopogbhaaGreatL27a
import Derived.Test.YtpmcgicopogbhaaGreatL27b
import Derived.WalkKit
import Derived.WalkSpells
import Derived.WalkLawsBesides
import Derived.Lib.Hide
import Derived.Deep.QuietTactic
import Derived.BigQuiet
import Derived.Deep.Draws
import Derived.Deep.RegionHeld3
import Derived.Test.YtpmcgicopogbhaaGreatL04
namespace Go.Proofs.YtpmcgicopogbhaaGreat
set_option linter.unusedSimpArgs false
open Go.RowKit
set_option linter.unusedVariables false
/-- Does a figure lie in a range? -/
def liB (a b c d e f : Int) : Bool := decide (fc c d a b ≤ 0) && decide (fc a b e f ≤ 0)
/-- Is a pair covered? -/
def cvR (R : Re) (ud ut vd vt : Int) : Bool := liB ud ut R.ad R.at_ R.bd R.bt && liB vd vt R.cd R.ct R.dd R.dt
theorem cvR_eq (R : Re) (ud ut vd vt : Int) : cvR R ud ut vd vt = (((decide (fc R.ad R.at_ ud ut ≤ 0) && decide (fc ud ut R.bd R.bt ≤ 0)) && decide (fc R.cd R.ct vd vt ≤ 0)) && decide (fc vd vt R.dd R.dt ≤ 0)) := by
  simp only [cvR, liB, Bool.and_assoc]
/-- The code of a release and two figures. -/
def pkC (R : Re) (ud ut vd vt : Int) : Int := if (okRe R && (okF ud ut && okF vd vt)) = true then 0 else 1
theorem pkC_0 {R : Re} {ud ut vd vt : Int} (h : pkC R ud ut vd vt = 0) : okRe R = true ∧ okF ud ut = true ∧ okF vd vt = true := by
  unfold pkC at h
  split at h
  · rename_i h'; simpa using h'
  · cases h
def icB (R : Re) (ud ut vd vt : Int) : Bool := decide (pkC R ud ut vd vt = 0) && cvR R ud ut vd vt
def ikC (R : Re) : Int := if okRe R = true then 0 else 1
def ikB (R : Re) : Bool := okRe R && decide (sbV R.ch R.ey ≤ R.bo)
set_option maxHeartbeats 2000000 in
theorem l27Code_c (R : Re) (A : Option Addr) (c : Nat) (ud ut vd vt : Int) (hn : R.ch.zs.length ≤ 1048576) (hm : R.ch.nm.size ≤ 1048576) (w : World) (hA : Ints w A R.ch.zs) :
    Calls Tryz.prog 62 #[.agg #[.int .i64 R.ch.dg, .int .i64 R.ch.tn, .string R.ch.nm, .slice A R.ch.zs.length c, .int .i64 R.ch.wd, .int .i64 R.ch.lf, .int .i64 R.ch.rt, .int .i64 R.ad, .int .i64 R.at_, .int .i64 R.bd, .int .i64 R.bt, .int .i64 R.cd, .int .i64 R.ct, .int .i64 R.dd, .int .i64 R.dt, .int .i64 R.ey, .int .i64 R.bo], .agg #[.int .i64 ud, .int .i64 ut], .agg #[.int .i64 vd, .int .i64 vt]] w fun e w' => e = .returned (.int .i64 (pkC R ud ut vd vt)) ∧ Below w.heap.size w w' := by
  have HI := Lib.hid hA
  clear hA
  go_enter Tryz.func62, Tryz.ntmps62
  go_wp2_with fail
  go_at_call 22; refine (IsRelease_S _ _ _ hn hm _ (by repeat (with_reducible first | exact HI.out | assumption | refine Ints.drew ?_ | refine Ints.drewN _ ?_ | refine Ints.alloc _ ?_ | refine Ints.step (by assumption) ?_))).mono ?_; rintro e w1 ⟨rfl, hb1⟩; obtain ⟨hc1, hf1, hz1⟩ := bel hb1; (try simp only [World.size_drew, World.cell?_drew, World.frozen?_drew, World.heap_drewN, World.cell?_drewN, World.frozen?_drewN] at hc1 hf1 hz1); (try have hl1 : w.heap.size < w1.heap.size := zl hb1); (try have hm1 : w.heap.size + 1 < w1.heap.size := zl hb1); (try have hn1 : w.heap.size + 1 + 1 < w1.heap.size := zl hb1); (try have hp1 : b < w1.heap.size := zl hb1); (try have ho1 : b' < w1.heap.size := by (have hq := hb1.size; (try simp at hq); omega))
  have hbel1 : Below w.heap.size w w1 := by repeat (with_reducible first | exact Below.refl _ _ | assumption | refine Bel.alloc ?_ _ | refine Bel.step (by assumption) ?_ | refine Below.drew ?_ | refine Bel.drewN ?_ _ | refine Below.setCell ?_ (by first | exact Nat.le_refl _ | omega | (simp; done) | (simp; omega)) _)
  have l3 : w.heap.size + 1 + 1 < w1.heap.size := by have := hb1.size; simp at this; omega
  have u0 : w1.cell? ⟨w.heap.size + 1, 0, none⟩ = some (.int .i64 ud) := by simp [go_sem, *]
  have u1 : w1.cell? ⟨w.heap.size + 1, 1, none⟩ = some (.int .i64 ut) := by simp [go_sem, *]
  have v0 : w1.cell? ⟨w.heap.size + 1 + 1, 0, none⟩ = some (.int .i64 vd) := by simp [go_sem, *]
  have v1 : w1.cell? ⟨w.heap.size + 1 + 1, 1, none⟩ = some (.int .i64 vt) := by simp [go_sem, *]
  clear hb1 hc1 hf1 hz1
  cases hx : okRe R
  · have HX := Lib.hid hx
    clear hx
    go_wp2
    go_ret
    exact ⟨ret_int (by simp [pkC, HX.out]), by repeat (with_reducible first | exact Below.refl _ _ | assumption | refine Bel.alloc ?_ _ | refine Bel.step (by assumption) ?_ | refine Below.drew ?_ | refine Bel.drewN ?_ _ | refine Below.setCell ?_ (by first | exact Nat.le_refl _ | omega | (simp; done) | (simp; omega)) _)⟩
  have H1 := Lib.hid hx
  clear hx
  go_wp2_with fail
  go_at_call 74; refine (l02Two_c _ _ _ _ _).mono ?_; rintro e w2 ⟨rfl, hb2⟩; obtain ⟨hc2, hf2, hz2⟩ := bel hb2; (try simp only [World.size_drew, World.cell?_drew, World.frozen?_drew, World.heap_drewN, World.cell?_drewN, World.frozen?_drewN] at hc2 hf2 hz2); (try have hl2 : w.heap.size < w2.heap.size := zl hb2); (try have hm2 : w.heap.size + 1 < w2.heap.size := zl hb2); (try have hn2 : w.heap.size + 1 + 1 < w2.heap.size := zl hb2); (try have hp2 : b < w2.heap.size := zl hb2); (try have ho2 : b' < w2.heap.size := by (have hq := hb2.size; (try simp at hq); omega))
  cases hx : (okF ud ut && okF vd vt)
  · have HX := Lib.hid hx
    clear hx
    go_wp2
    go_ret
    exact ⟨ret_int (by simp only [pkC, HX.out, Bool.and_false]; rfl), by repeat (with_reducible first | exact Below.refl _ _ | assumption | refine Bel.alloc ?_ _ | refine Bel.step (by assumption) ?_ | refine Below.drew ?_ | refine Bel.drewN ?_ _ | refine Below.setCell ?_ (by first | exact Nat.le_refl _ | omega | (simp; done) | (simp; omega)) _)⟩
  · have HX := Lib.hid hx
    clear hx
    go_wp2
    go_ret
    exact ⟨ret_int (by simp only [pkC, H1.out, HX.out]; rfl), by repeat (with_reducible first | exact Below.refl _ _ | assumption | refine Bel.alloc ?_ _ | refine Bel.step (by assumption) ?_ | refine Below.drew ?_ | refine Bel.drewN ?_ _ | refine Below.setCell ?_ (by first | exact Nat.le_refl _ | omega | (simp; done) | (simp; omega)) _)⟩
set_option maxHeartbeats 2000000 in
theorem checkPair_c (R : Re) (A : Option Addr) (c : Nat) (ud ut vd vt : Int) (hn : R.ch.zs.length ≤ 1048576) (hm : R.ch.nm.size ≤ 1048576) (w : World) (hA : Ints w A R.ch.zs) :
    Calls Tryz.prog 57 #[.agg #[.int .i64 R.ch.dg, .int .i64 R.ch.tn, .string R.ch.nm, .slice A R.ch.zs.length c, .int .i64 R.ch.wd, .int .i64 R.ch.lf, .int .i64 R.ch.rt, .int .i64 R.ad, .int .i64 R.at_, .int .i64 R.bd, .int .i64 R.bt, .int .i64 R.cd, .int .i64 R.ct, .int .i64 R.dd, .int .i64 R.dt, .int .i64 R.ey, .int .i64 R.bo], .agg #[.int .i64 ud, .int .i64 ut], .agg #[.int .i64 vd, .int .i64 vt]] w fun e w' => e = .returned (.int .i64 (pkC R ud ut vd vt)) ∧ Below w.heap.size w w' := by
  have HI := Lib.hid hA
  clear hA
  go_enter Tryz.func57, Tryz.ntmps57
  go_wp2_with fail
  go_at_call 21; refine (IsRelease_I _ _ _ hn hm _ (by repeat (with_reducible first | exact HI.out | assumption | refine Ints.drew ?_ | refine Ints.drewN _ ?_ | refine Ints.alloc _ ?_ | refine Ints.step (by assumption) ?_))).mono ?_; rintro e w1 ⟨rfl, hb1⟩; obtain ⟨hc1, hf1, hz1⟩ := bel hb1; (try simp only [World.size_drew, World.cell?_drew, World.frozen?_drew, World.heap_drewN, World.cell?_drewN, World.frozen?_drewN] at hc1 hf1 hz1); (try have hl1 : w.heap.size < w1.heap.size := zl hb1); (try have hm1 : w.heap.size + 1 < w1.heap.size := zl hb1); (try have hn1 : w.heap.size + 1 + 1 < w1.heap.size := zl hb1); (try have hp1 : b < w1.heap.size := zl hb1); (try have ho1 : b' < w1.heap.size := by (have hq := hb1.size; (try simp at hq); omega))
  have hbel1 : Below w.heap.size w w1 := by repeat (with_reducible first | exact Below.refl _ _ | assumption | refine Bel.alloc ?_ _ | refine Bel.step (by assumption) ?_ | refine Below.drew ?_ | refine Bel.drewN ?_ _ | refine Below.setCell ?_ (by first | exact Nat.le_refl _ | omega | (simp; done) | (simp; omega)) _)
  have l3 : w.heap.size + 1 + 1 < w1.heap.size := by have := hb1.size; simp at this; omega
  have u0 : w1.cell? ⟨w.heap.size + 1, 0, none⟩ = some (.int .i64 ud) := by simp [go_sem, *]
  have u1 : w1.cell? ⟨w.heap.size + 1, 1, none⟩ = some (.int .i64 ut) := by simp [go_sem, *]
  have v0 : w1.cell? ⟨w.heap.size + 1 + 1, 0, none⟩ = some (.int .i64 vd) := by simp [go_sem, *]
  have v1 : w1.cell? ⟨w.heap.size + 1 + 1, 1, none⟩ = some (.int .i64 vt) := by simp [go_sem, *]
  clear hb1 hc1 hf1 hz1
  cases hx : okRe R
  · have HX := Lib.hid hx
    clear hx
    go_wp2
    go_ret
    exact ⟨ret_int (by simp [pkC, HX.out]), by repeat (with_reducible first | exact Below.refl _ _ | assumption | refine Bel.alloc ?_ _ | refine Bel.step (by assumption) ?_ | refine Below.drew ?_ | refine Bel.drewN ?_ _ | refine Below.setCell ?_ (by first | exact Nat.le_refl _ | omega | (simp; done) | (simp; omega)) _)⟩
  have H1 := Lib.hid hx
  clear hx
  go_wp2_with fail
  go_at_call 70; refine (areFigures_c _ _ [(ud, ut), (vd, vt)] (by simp) _ (Prs.mk2 _ _ _ _ _ _)).mono ?_; rintro e w2 ⟨rfl, hb2⟩
  rw [okFs_two]
  cases hx : (okF ud ut && okF vd vt)
  · have HX := Lib.hid hx
    clear hx
    go_wp2
    go_ret
    exact ⟨ret_int (by simp only [pkC, HX.out, Bool.and_false]; rfl), by repeat (with_reducible first | exact Below.refl _ _ | assumption | refine Bel.alloc ?_ _ | refine Bel.step (by assumption) ?_ | refine Below.drew ?_ | refine Bel.drewN ?_ _ | refine Below.setCell ?_ (by first | exact Nat.le_refl _ | omega | (simp; done) | (simp; omega)) _)⟩
  · have HX := Lib.hid hx
    clear hx
    go_wp2
    go_ret
    exact ⟨ret_int (by simp only [pkC, H1.out, HX.out]; rfl), by repeat (with_reducible first | exact Below.refl _ _ | assumption | refine Bel.alloc ?_ _ | refine Bel.step (by assumption) ?_ | refine Below.drew ?_ | refine Bel.drewN ?_ _ | refine Below.setCell ?_ (by first | exact Nat.le_refl _ | omega | (simp; done) | (simp; omega)) _)⟩
theorem lies_c (a b c d e f : Int) (h1 : okF a b = true) (h2 : okF c d = true) (h3 : okF e f = true) (w : World) :
    Calls Tryz.prog 104 #[.agg #[.int .i64 a, .int .i64 b], .agg #[.int .i64 c, .int .i64 d], .agg #[.int .i64 e, .int .i64 f]] w fun r w' => r = .returned (.bool (liB a b c d e f)) ∧ Below w.heap.size w w' := by
  have H1 := Lib.hid h1
  have H2 := Lib.hid h2
  have H3 := Lib.hid h3
  clear h1 h2 h3
  go_enter Tryz.func104, Tryz.ntmps104
  go_wp2_with fail
  go_at_call 72; refine (compareFigures_c _ _ _ _ H2.out H1.out _).mono ?_; rintro e w1 ⟨rfl, hb1⟩; obtain ⟨hc1, hf1, hz1⟩ := bel hb1; (try simp only [World.size_drew, World.cell?_drew, World.frozen?_drew, World.heap_drewN, World.cell?_drewN, World.frozen?_drewN] at hc1 hf1 hz1); (try have hl1 : w.heap.size < w1.heap.size := zl hb1); (try have hm1 : w.heap.size + 1 < w1.heap.size := zl hb1); (try have hn1 : w.heap.size + 1 + 1 < w1.heap.size := zl hb1); (try have hp1 : b < w1.heap.size := zl hb1); (try have ho1 : b' < w1.heap.size := by (have hq := hb1.size; (try simp at hq); omega))
  have l3 : w.heap.size + 1 + 1 < w1.heap.size := by have := hb1.size; simp at this; omega
  cases hx : decide (fc c d a b ≤ 0)
  · have HX := Lib.hid hx
    go_wp2
    go_ret
    exact ⟨ret_bool (by simp only [liB, HX.out, Bool.false_and]), by repeat (with_reducible first | exact Below.refl _ _ | assumption | refine Bel.alloc ?_ _ | refine Bel.step (by assumption) ?_ | refine Below.drew ?_ | refine Bel.drewN ?_ _ | refine Below.setCell ?_ (by first | exact Nat.le_refl _ | omega | (simp; done) | (simp; omega)) _)⟩
  · have HX := Lib.hid hx
    go_wp2_with fail
    go_at_call 72; refine (compareFigures_c _ _ _ _ H1.out H3.out _).mono ?_; rintro e w2 ⟨rfl, hb2⟩; obtain ⟨hc2, hf2, hz2⟩ := bel hb2; (try simp only [World.size_drew, World.cell?_drew, World.frozen?_drew, World.heap_drewN, World.cell?_drewN, World.frozen?_drewN] at hc2 hf2 hz2); (try have hl2 : w.heap.size < w2.heap.size := zl hb2); (try have hm2 : w.heap.size + 1 < w2.heap.size := zl hb2); (try have hn2 : w.heap.size + 1 + 1 < w2.heap.size := zl hb2); (try have hp2 : b < w2.heap.size := zl hb2); (try have ho2 : b' < w2.heap.size := by (have hq := hb2.size; (try simp at hq); omega))
    go_wp2
    go_ret
    exact ⟨ret_bool (by simp only [liB, HX.out, Bool.true_and]), by repeat (with_reducible first | exact Below.refl _ _ | assumption | refine Bel.alloc ?_ _ | refine Bel.step (by assumption) ?_ | refine Below.drew ?_ | refine Bel.drewN ?_ _ | refine Below.setCell ?_ (by first | exact Nat.le_refl _ | omega | (simp; done) | (simp; omega)) _)⟩
set_option maxHeartbeats 2000000 in
theorem l27Covered_c (R : Re) (A : Option Addr) (c : Nat) (ud ut vd vt : Int) (hr : okRe R = true) (hu : okF ud ut = true) (hv : okF vd vt = true) (w : World) :
    Calls Tryz.prog 63 #[.agg #[.int .i64 R.ch.dg, .int .i64 R.ch.tn, .string R.ch.nm, .slice A R.ch.zs.length c, .int .i64 R.ch.wd, .int .i64 R.ch.lf, .int .i64 R.ch.rt, .int .i64 R.ad, .int .i64 R.at_, .int .i64 R.bd, .int .i64 R.bt, .int .i64 R.cd, .int .i64 R.ct, .int .i64 R.dd, .int .i64 R.dt, .int .i64 R.ey, .int .i64 R.bo], .agg #[.int .i64 ud, .int .i64 ut], .agg #[.int .i64 vd, .int .i64 vt]] w fun e w' => e = .returned (.bool (cvR R ud ut vd vt)) ∧ Below w.heap.size w w' := by
  have HV := Lib.hid (cvR_eq R ud ut vd vt)
  have HR := Lib.hid (okRe_iff hr)
  have HU := Lib.hid hu
  have HW := Lib.hid hv
  clear hr hu hv
  go_enter Tryz.func63, Tryz.ntmps63
  go_wp2_with fail
  go_at_call 75; refine (l02Compare_c _ _ _ _ HR.out.2.1 HU.out _).mono ?_; rintro e w1 ⟨rfl, hb1⟩; obtain ⟨hc1, hf1, hz1⟩ := bel hb1; (try simp only [World.size_drew, World.cell?_drew, World.frozen?_drew, World.heap_drewN, World.cell?_drewN, World.frozen?_drewN] at hc1 hf1 hz1); (try have hl1 : w.heap.size < w1.heap.size := zl hb1); (try have hm1 : w.heap.size + 1 < w1.heap.size := zl hb1); (try have hn1 : w.heap.size + 1 + 1 < w1.heap.size := zl hb1); (try have hp1 : b < w1.heap.size := zl hb1); (try have ho1 : b' < w1.heap.size := by (have hq := hb1.size; (try simp at hq); omega))
  have hbel1 : Below w.heap.size w w1 := by repeat (with_reducible first | exact Below.refl _ _ | assumption | refine Bel.alloc ?_ _ | refine Bel.step (by assumption) ?_ | refine Below.drew ?_ | refine Bel.drewN ?_ _ | refine Below.setCell ?_ (by first | exact Nat.le_refl _ | omega | (simp; done) | (simp; omega)) _)
  have l3 : w.heap.size + 1 + 1 < w1.heap.size := by have := hb1.size; simp at this; omega
  have HB1 : Blk w1 w.heap.size 32 #[.int .i64 R.ch.dg, .int .i64 R.ch.tn, .string R.ch.nm, .slice A R.ch.zs.length c, .int .i64 R.ch.wd, .int .i64 R.ch.lf, .int .i64 R.ch.rt, .int .i64 R.ad, .int .i64 R.at_, .int .i64 R.bd, .int .i64 R.bt, .int .i64 R.cd, .int .i64 R.ct, .int .i64 R.dd, .int .i64 R.dt, .int .i64 R.ey, .int .i64 R.bo] := Blk.step hb1 (Blk.alloc _ (Blk.alloc _ (Blk.new _ _ _)))
  have u0 : w1.cell? ⟨w.heap.size + 1, 0, none⟩ = some (.int .i64 ud) := by simp [go_sem, *]
  have u1 : w1.cell? ⟨w.heap.size + 1, 1, none⟩ = some (.int .i64 ut) := by simp [go_sem, *]
  have v0 : w1.cell? ⟨w.heap.size + 1 + 1, 0, none⟩ = some (.int .i64 vd) := by simp [go_sem, *]
  have v1 : w1.cell? ⟨w.heap.size + 1 + 1, 1, none⟩ = some (.int .i64 vt) := by simp [go_sem, *]
  clear hb1 hc1 hf1 hz1
  have p0 : w1.cell? ⟨w.heap.size, 0, none⟩ = some (.int .i64 R.ch.dg) := by rw [HB1.cell]; rfl
  have p1 : w1.cell? ⟨w.heap.size, 1, none⟩ = some (.int .i64 R.ch.tn) := by rw [HB1.cell]; rfl
  have p2 : w1.cell? ⟨w.heap.size, 2, none⟩ = some (.string R.ch.nm) := by rw [HB1.cell]; rfl
  have p3 : w1.cell? ⟨w.heap.size, 3, none⟩ = some (.slice A R.ch.zs.length c) := by rw [HB1.cell]; rfl
  have p4 : w1.cell? ⟨w.heap.size, 4, none⟩ = some (.int .i64 R.ch.wd) := by rw [HB1.cell]; rfl
  have p5 : w1.cell? ⟨w.heap.size, 5, none⟩ = some (.int .i64 R.ch.lf) := by rw [HB1.cell]; rfl
  have p6 : w1.cell? ⟨w.heap.size, 6, none⟩ = some (.int .i64 R.ch.rt) := by rw [HB1.cell]; rfl
  have p7 : w1.cell? ⟨w.heap.size, 7, none⟩ = some (.int .i64 R.ad) := by rw [HB1.cell]; rfl
  have p8 : w1.cell? ⟨w.heap.size, 8, none⟩ = some (.int .i64 R.at_) := by rw [HB1.cell]; rfl
  have p9 : w1.cell? ⟨w.heap.size, 9, none⟩ = some (.int .i64 R.bd) := by rw [HB1.cell]; rfl
  have p10 : w1.cell? ⟨w.heap.size, 10, none⟩ = some (.int .i64 R.bt) := by rw [HB1.cell]; rfl
  have p11 : w1.cell? ⟨w.heap.size, 11, none⟩ = some (.int .i64 R.cd) := by rw [HB1.cell]; rfl
  have p12 : w1.cell? ⟨w.heap.size, 12, none⟩ = some (.int .i64 R.ct) := by rw [HB1.cell]; rfl
  have p13 : w1.cell? ⟨w.heap.size, 13, none⟩ = some (.int .i64 R.dd) := by rw [HB1.cell]; rfl
  have p14 : w1.cell? ⟨w.heap.size, 14, none⟩ = some (.int .i64 R.dt) := by rw [HB1.cell]; rfl
  have p15 : w1.cell? ⟨w.heap.size, 15, none⟩ = some (.int .i64 R.ey) := by rw [HB1.cell]; rfl
  have p16 : w1.cell? ⟨w.heap.size, 16, none⟩ = some (.int .i64 R.bo) := by rw [HB1.cell]; rfl
  cases hx : decide (fc R.ad R.at_ ud ut ≤ 0)
  · have HX := Lib.hid hx
    clear HB1
    go_wp2
    go_ret
    exact ⟨ret_bool (by simp only [HV.out, HX.out, Bool.false_and]), by repeat (with_reducible first | exact Below.refl _ _ | assumption | refine Bel.alloc ?_ _ | refine Bel.step (by assumption) ?_ | refine Below.drew ?_ | refine Bel.drewN ?_ _ | refine Below.setCell ?_ (by first | exact Nat.le_refl _ | omega | (simp; done) | (simp; omega)) _)⟩
  have H1 := Lib.hid hx
  go_wp2_with fail
  go_at_call 75; refine (l02Compare_c _ _ _ _ HU.out HR.out.2.2.1 _).mono ?_; rintro e w2 ⟨rfl, hb2⟩; obtain ⟨hc2, hf2, hz2⟩ := bel hb2; (try simp only [World.size_drew, World.cell?_drew, World.frozen?_drew, World.heap_drewN, World.cell?_drewN, World.frozen?_drewN] at hc2 hf2 hz2); (try have hl2 : w.heap.size < w2.heap.size := zl hb2); (try have hm2 : w.heap.size + 1 < w2.heap.size := zl hb2); (try have hn2 : w.heap.size + 1 + 1 < w2.heap.size := zl hb2); (try have hp2 : b < w2.heap.size := zl hb2); (try have ho2 : b' < w2.heap.size := by (have hq := hb2.size; (try simp at hq); omega))
  clear hx
  have hbel2 : Below w.heap.size w w2 := by repeat (with_reducible first | exact Below.refl _ _ | assumption | refine Bel.alloc ?_ _ | refine Bel.step (by assumption) ?_ | refine Below.drew ?_ | refine Bel.drewN ?_ _ | refine Below.setCell ?_ (by first | exact Nat.le_refl _ | omega | (simp; done) | (simp; omega)) _)
  have HB2 : Blk w2 w.heap.size 32 #[.int .i64 R.ch.dg, .int .i64 R.ch.tn, .string R.ch.nm, .slice A R.ch.zs.length c, .int .i64 R.ch.wd, .int .i64 R.ch.lf, .int .i64 R.ch.rt, .int .i64 R.ad, .int .i64 R.at_, .int .i64 R.bd, .int .i64 R.bt, .int .i64 R.cd, .int .i64 R.ct, .int .i64 R.dd, .int .i64 R.dt, .int .i64 R.ey, .int .i64 R.bo] := Blk.step hb2 HB1
  have v20 : w2.cell? ⟨w.heap.size + 1 + 1, 0, none⟩ = some (.int .i64 vd) := (hc2 _ _ l3).trans v0
  have v21 : w2.cell? ⟨w.heap.size + 1 + 1, 1, none⟩ = some (.int .i64 vt) := (hc2 _ _ l3).trans v1
  have l4 := hz2 _ l3
  clear hb2 hc2 hf2 hz2 u0 u1 v0 v1 HB1 p0 p1 p2 p3 p4 p5 p6 p7 p8 p9 p10 p11 p12 p13 p14 p15 p16
  have p0 : w2.cell? ⟨w.heap.size, 0, none⟩ = some (.int .i64 R.ch.dg) := by rw [HB2.cell]; rfl
  have p1 : w2.cell? ⟨w.heap.size, 1, none⟩ = some (.int .i64 R.ch.tn) := by rw [HB2.cell]; rfl
  have p2 : w2.cell? ⟨w.heap.size, 2, none⟩ = some (.string R.ch.nm) := by rw [HB2.cell]; rfl
  have p3 : w2.cell? ⟨w.heap.size, 3, none⟩ = some (.slice A R.ch.zs.length c) := by rw [HB2.cell]; rfl
  have p4 : w2.cell? ⟨w.heap.size, 4, none⟩ = some (.int .i64 R.ch.wd) := by rw [HB2.cell]; rfl
  have p5 : w2.cell? ⟨w.heap.size, 5, none⟩ = some (.int .i64 R.ch.lf) := by rw [HB2.cell]; rfl
  have p6 : w2.cell? ⟨w.heap.size, 6, none⟩ = some (.int .i64 R.ch.rt) := by rw [HB2.cell]; rfl
  have p7 : w2.cell? ⟨w.heap.size, 7, none⟩ = some (.int .i64 R.ad) := by rw [HB2.cell]; rfl
  have p8 : w2.cell? ⟨w.heap.size, 8, none⟩ = some (.int .i64 R.at_) := by rw [HB2.cell]; rfl
  have p9 : w2.cell? ⟨w.heap.size, 9, none⟩ = some (.int .i64 R.bd) := by rw [HB2.cell]; rfl
  have p10 : w2.cell? ⟨w.heap.size, 10, none⟩ = some (.int .i64 R.bt) := by rw [HB2.cell]; rfl
  have p11 : w2.cell? ⟨w.heap.size, 11, none⟩ = some (.int .i64 R.cd) := by rw [HB2.cell]; rfl
  have p12 : w2.cell? ⟨w.heap.size, 12, none⟩ = some (.int .i64 R.ct) := by rw [HB2.cell]; rfl
  have p13 : w2.cell? ⟨w.heap.size, 13, none⟩ = some (.int .i64 R.dd) := by rw [HB2.cell]; rfl
  have p14 : w2.cell? ⟨w.heap.size, 14, none⟩ = some (.int .i64 R.dt) := by rw [HB2.cell]; rfl
  have p15 : w2.cell? ⟨w.heap.size, 15, none⟩ = some (.int .i64 R.ey) := by rw [HB2.cell]; rfl
  have p16 : w2.cell? ⟨w.heap.size, 16, none⟩ = some (.int .i64 R.bo) := by rw [HB2.cell]; rfl
  cases hx : decide (fc ud ut R.bd R.bt ≤ 0)
  · have HX := Lib.hid hx
    clear HB2
    go_wp2
    go_ret
    exact ⟨ret_bool (by simp only [HV.out, H1.out, HX.out, Bool.false_and, Bool.and_false]), by repeat (with_reducible first | exact Below.refl _ _ | assumption | refine Bel.alloc ?_ _ | refine Bel.step (by assumption) ?_ | refine Below.drew ?_ | refine Bel.drewN ?_ _ | refine Below.setCell ?_ (by first | exact Nat.le_refl _ | omega | (simp; done) | (simp; omega)) _)⟩
  have H2 := Lib.hid hx
  go_wp2_with fail
  go_at_call 75; refine (l02Compare_c _ _ _ _ HR.out.2.2.2.1 HW.out _).mono ?_; rintro e w3 ⟨rfl, hb3⟩; obtain ⟨hc3, hf3, hz3⟩ := bel hb3; (try simp only [World.size_drew, World.cell?_drew, World.frozen?_drew, World.heap_drewN, World.cell?_drewN, World.frozen?_drewN] at hc3 hf3 hz3); (try have hl3 : w.heap.size < w3.heap.size := zl hb3); (try have hm3 : w.heap.size + 1 < w3.heap.size := zl hb3); (try have hn3 : w.heap.size + 1 + 1 < w3.heap.size := zl hb3); (try have hp3 : b < w3.heap.size := zl hb3); (try have ho3 : b' < w3.heap.size := by (have hq := hb3.size; (try simp at hq); omega))
  clear hx
  have hbel3 : Below w.heap.size w w3 := by repeat (with_reducible first | exact Below.refl _ _ | assumption | refine Bel.alloc ?_ _ | refine Bel.step (by assumption) ?_ | refine Below.drew ?_ | refine Bel.drewN ?_ _ | refine Below.setCell ?_ (by first | exact Nat.le_refl _ | omega | (simp; done) | (simp; omega)) _)
  have HB3 : Blk w3 w.heap.size 32 #[.int .i64 R.ch.dg, .int .i64 R.ch.tn, .string R.ch.nm, .slice A R.ch.zs.length c, .int .i64 R.ch.wd, .int .i64 R.ch.lf, .int .i64 R.ch.rt, .int .i64 R.ad, .int .i64 R.at_, .int .i64 R.bd, .int .i64 R.bt, .int .i64 R.cd, .int .i64 R.ct, .int .i64 R.dd, .int .i64 R.dt, .int .i64 R.ey, .int .i64 R.bo] := Blk.step hb3 HB2
  have v30 : w3.cell? ⟨w.heap.size + 1 + 1, 0, none⟩ = some (.int .i64 vd) := (hc3 _ _ l4).trans v20
  have v31 : w3.cell? ⟨w.heap.size + 1 + 1, 1, none⟩ = some (.int .i64 vt) := (hc3 _ _ l4).trans v21
  clear hb3 hc3 hf3 hz3 v20 v21 HB2 p0 p1 p2 p3 p4 p5 p6 p7 p8 p9 p10 p11 p12 p13 p14 p15 p16
  have p0 : w3.cell? ⟨w.heap.size, 0, none⟩ = some (.int .i64 R.ch.dg) := by rw [HB3.cell]; rfl
  have p1 : w3.cell? ⟨w.heap.size, 1, none⟩ = some (.int .i64 R.ch.tn) := by rw [HB3.cell]; rfl
  have p2 : w3.cell? ⟨w.heap.size, 2, none⟩ = some (.string R.ch.nm) := by rw [HB3.cell]; rfl
  have p3 : w3.cell? ⟨w.heap.size, 3, none⟩ = some (.slice A R.ch.zs.length c) := by rw [HB3.cell]; rfl
  have p4 : w3.cell? ⟨w.heap.size, 4, none⟩ = some (.int .i64 R.ch.wd) := by rw [HB3.cell]; rfl
  have p5 : w3.cell? ⟨w.heap.size, 5, none⟩ = some (.int .i64 R.ch.lf) := by rw [HB3.cell]; rfl
  have p6 : w3.cell? ⟨w.heap.size, 6, none⟩ = some (.int .i64 R.ch.rt) := by rw [HB3.cell]; rfl
  have p7 : w3.cell? ⟨w.heap.size, 7, none⟩ = some (.int .i64 R.ad) := by rw [HB3.cell]; rfl
  have p8 : w3.cell? ⟨w.heap.size, 8, none⟩ = some (.int .i64 R.at_) := by rw [HB3.cell]; rfl
  have p9 : w3.cell? ⟨w.heap.size, 9, none⟩ = some (.int .i64 R.bd) := by rw [HB3.cell]; rfl
  have p10 : w3.cell? ⟨w.heap.size, 10, none⟩ = some (.int .i64 R.bt) := by rw [HB3.cell]; rfl
  have p11 : w3.cell? ⟨w.heap.size, 11, none⟩ = some (.int .i64 R.cd) := by rw [HB3.cell]; rfl
  have p12 : w3.cell? ⟨w.heap.size, 12, none⟩ = some (.int .i64 R.ct) := by rw [HB3.cell]; rfl
  have p13 : w3.cell? ⟨w.heap.size, 13, none⟩ = some (.int .i64 R.dd) := by rw [HB3.cell]; rfl
  have p14 : w3.cell? ⟨w.heap.size, 14, none⟩ = some (.int .i64 R.dt) := by rw [HB3.cell]; rfl
  have p15 : w3.cell? ⟨w.heap.size, 15, none⟩ = some (.int .i64 R.ey) := by rw [HB3.cell]; rfl
  have p16 : w3.cell? ⟨w.heap.size, 16, none⟩ = some (.int .i64 R.bo) := by rw [HB3.cell]; rfl
  clear HB3
  cases hx : decide (fc R.cd R.ct vd vt ≤ 0)
  · have HX := Lib.hid hx
    go_wp2
    go_ret
    exact ⟨ret_bool (by simp only [HV.out, H1.out, H2.out, HX.out, Bool.false_and, Bool.and_false]), by repeat (with_reducible first | exact Below.refl _ _ | assumption | refine Bel.alloc ?_ _ | refine Bel.step (by assumption) ?_ | refine Below.drew ?_ | refine Bel.drewN ?_ _ | refine Below.setCell ?_ (by first | exact Nat.le_refl _ | omega | (simp; done) | (simp; omega)) _)⟩
  have H3 := Lib.hid hx
  go_wp2_with fail
  go_at_call 75; refine (l02Compare_c _ _ _ _ HW.out HR.out.2.2.2.2.1 _).mono ?_; rintro e w4 ⟨rfl, hb4⟩; obtain ⟨hc4, hf4, hz4⟩ := bel hb4; (try simp only [World.size_drew, World.cell?_drew, World.frozen?_drew, World.heap_drewN, World.cell?_drewN, World.frozen?_drewN] at hc4 hf4 hz4); (try have hl4 : w.heap.size < w4.heap.size := zl hb4); (try have hm4 : w.heap.size + 1 < w4.heap.size := zl hb4); (try have hn4 : w.heap.size + 1 + 1 < w4.heap.size := zl hb4); (try have hp4 : b < w4.heap.size := zl hb4); (try have ho4 : b' < w4.heap.size := by (have hq := hb4.size; (try simp at hq); omega))
  clear hx
  go_wp2
  go_ret
  exact ⟨ret_bool (by simp only [HV.out, H1.out, H2.out, H3.out, Bool.true_and]), by repeat (with_reducible first | exact Below.refl _ _ | assumption | refine Bel.alloc ?_ _ | refine Bel.step (by assumption) ?_ | refine Below.drew ?_ | refine Bel.drewN ?_ _ | refine Below.setCell ?_ (by first | exact Nat.le_refl _ | omega | (simp; done) | (simp; omega)) _)⟩
set_option maxHeartbeats 2000000 in
theorem isCovered_c (R : Re) (A : Option Addr) (c : Nat) (ud ut vd vt : Int) (hr : okRe R = true) (hu : okF ud ut = true) (hv : okF vd vt = true) (w : World) :
    Calls Tryz.prog 58 #[.agg #[.int .i64 R.ch.dg, .int .i64 R.ch.tn, .string R.ch.nm, .slice A R.ch.zs.length c, .int .i64 R.ch.wd, .int .i64 R.ch.lf, .int .i64 R.ch.rt, .int .i64 R.ad, .int .i64 R.at_, .int .i64 R.bd, .int .i64 R.bt, .int .i64 R.cd, .int .i64 R.ct, .int .i64 R.dd, .int .i64 R.dt, .int .i64 R.ey, .int .i64 R.bo], .agg #[.int .i64 ud, .int .i64 ut], .agg #[.int .i64 vd, .int .i64 vt]] w fun e w' => e = .returned (.bool (cvR R ud ut vd vt)) ∧ Below w.heap.size w w' := by
  have HR := Lib.hid (okRe_iff hr)
  have HU := Lib.hid hu
  have HW := Lib.hid hv
  have HV := Lib.hid (show cvR R ud ut vd vt = (liB ud ut R.ad R.at_ R.bd R.bt && liB vd vt R.cd R.ct R.dd R.dt) from rfl)
  clear hr hu hv
  go_enter Tryz.func58, Tryz.ntmps58
  go_wp2_with fail
  go_at_call 104; refine (lies_c _ _ _ _ _ _ HU.out HR.out.2.1 HR.out.2.2.1 _).mono ?_; rintro e w1 ⟨rfl, hb1⟩; obtain ⟨hc1, hf1, hz1⟩ := bel hb1; (try simp only [World.size_drew, World.cell?_drew, World.frozen?_drew, World.heap_drewN, World.cell?_drewN, World.frozen?_drewN] at hc1 hf1 hz1); (try have hl1 : w.heap.size < w1.heap.size := zl hb1); (try have hm1 : w.heap.size + 1 < w1.heap.size := zl hb1); (try have hn1 : w.heap.size + 1 + 1 < w1.heap.size := zl hb1); (try have hp1 : b < w1.heap.size := zl hb1); (try have ho1 : b' < w1.heap.size := by (have hq := hb1.size; (try simp at hq); omega))
  have hbel1 : Below w.heap.size w w1 := by repeat (with_reducible first | exact Below.refl _ _ | assumption | refine Bel.alloc ?_ _ | refine Bel.step (by assumption) ?_ | refine Below.drew ?_ | refine Bel.drewN ?_ _ | refine Below.setCell ?_ (by first | exact Nat.le_refl _ | omega | (simp; done) | (simp; omega)) _)
  have l3 : w.heap.size + 1 + 1 < w1.heap.size := by have := hb1.size; simp at this; omega
  have HB1 : Blk w1 w.heap.size 32 #[.int .i64 R.ch.dg, .int .i64 R.ch.tn, .string R.ch.nm, .slice A R.ch.zs.length c, .int .i64 R.ch.wd, .int .i64 R.ch.lf, .int .i64 R.ch.rt, .int .i64 R.ad, .int .i64 R.at_, .int .i64 R.bd, .int .i64 R.bt, .int .i64 R.cd, .int .i64 R.ct, .int .i64 R.dd, .int .i64 R.dt, .int .i64 R.ey, .int .i64 R.bo] := Blk.step hb1 (Blk.alloc _ (Blk.alloc _ (Blk.new _ _ _)))
  have v0 : w1.cell? ⟨w.heap.size + 1 + 1, 0, none⟩ = some (.int .i64 vd) := by simp [go_sem, *]
  have v1 : w1.cell? ⟨w.heap.size + 1 + 1, 1, none⟩ = some (.int .i64 vt) := by simp [go_sem, *]
  clear hb1 hc1 hf1 hz1
  have p0 : w1.cell? ⟨w.heap.size, 0, none⟩ = some (.int .i64 R.ch.dg) := by rw [HB1.cell]; rfl
  have p1 : w1.cell? ⟨w.heap.size, 1, none⟩ = some (.int .i64 R.ch.tn) := by rw [HB1.cell]; rfl
  have p2 : w1.cell? ⟨w.heap.size, 2, none⟩ = some (.string R.ch.nm) := by rw [HB1.cell]; rfl
  have p3 : w1.cell? ⟨w.heap.size, 3, none⟩ = some (.slice A R.ch.zs.length c) := by rw [HB1.cell]; rfl
  have p4 : w1.cell? ⟨w.heap.size, 4, none⟩ = some (.int .i64 R.ch.wd) := by rw [HB1.cell]; rfl
  have p5 : w1.cell? ⟨w.heap.size, 5, none⟩ = some (.int .i64 R.ch.lf) := by rw [HB1.cell]; rfl
  have p6 : w1.cell? ⟨w.heap.size, 6, none⟩ = some (.int .i64 R.ch.rt) := by rw [HB1.cell]; rfl
  have p7 : w1.cell? ⟨w.heap.size, 7, none⟩ = some (.int .i64 R.ad) := by rw [HB1.cell]; rfl
  have p8 : w1.cell? ⟨w.heap.size, 8, none⟩ = some (.int .i64 R.at_) := by rw [HB1.cell]; rfl
  have p9 : w1.cell? ⟨w.heap.size, 9, none⟩ = some (.int .i64 R.bd) := by rw [HB1.cell]; rfl
  have p10 : w1.cell? ⟨w.heap.size, 10, none⟩ = some (.int .i64 R.bt) := by rw [HB1.cell]; rfl
  have p11 : w1.cell? ⟨w.heap.size, 11, none⟩ = some (.int .i64 R.cd) := by rw [HB1.cell]; rfl
  have p12 : w1.cell? ⟨w.heap.size, 12, none⟩ = some (.int .i64 R.ct) := by rw [HB1.cell]; rfl
  have p13 : w1.cell? ⟨w.heap.size, 13, none⟩ = some (.int .i64 R.dd) := by rw [HB1.cell]; rfl
  have p14 : w1.cell? ⟨w.heap.size, 14, none⟩ = some (.int .i64 R.dt) := by rw [HB1.cell]; rfl
  have p15 : w1.cell? ⟨w.heap.size, 15, none⟩ = some (.int .i64 R.ey) := by rw [HB1.cell]; rfl
  have p16 : w1.cell? ⟨w.heap.size, 16, none⟩ = some (.int .i64 R.bo) := by rw [HB1.cell]; rfl
  clear HB1
  cases hx : liB ud ut R.ad R.at_ R.bd R.bt
  · have HX := Lib.hid hx
    clear hx
    go_wp2
    go_ret
    exact ⟨ret_bool (by simp only [HV.out, HX.out, Bool.false_and]), by repeat (with_reducible first | exact Below.refl _ _ | assumption | refine Bel.alloc ?_ _ | refine Bel.step (by assumption) ?_ | refine Below.drew ?_ | refine Bel.drewN ?_ _ | refine Below.setCell ?_ (by first | exact Nat.le_refl _ | omega | (simp; done) | (simp; omega)) _)⟩
  have H1 := Lib.hid hx
  clear hx
  go_wp2_with fail
  go_at_call 104; refine (lies_c _ _ _ _ _ _ HW.out HR.out.2.2.2.1 HR.out.2.2.2.2.1 _).mono ?_; rintro e w2 ⟨rfl, hb2⟩; obtain ⟨hc2, hf2, hz2⟩ := bel hb2; (try simp only [World.size_drew, World.cell?_drew, World.frozen?_drew, World.heap_drewN, World.cell?_drewN, World.frozen?_drewN] at hc2 hf2 hz2); (try have hl2 : w.heap.size < w2.heap.size := zl hb2); (try have hm2 : w.heap.size + 1 < w2.heap.size := zl hb2); (try have hn2 : w.heap.size + 1 + 1 < w2.heap.size := zl hb2); (try have hp2 : b < w2.heap.size := zl hb2); (try have ho2 : b' < w2.heap.size := by (have hq := hb2.size; (try simp at hq); omega))
  go_wp2
  go_ret
  exact ⟨ret_bool (by simp only [HV.out, H1.out, Bool.true_and]), by repeat (with_reducible first | exact Below.refl _ _ | assumption | refine Bel.alloc ?_ _ | refine Bel.step (by assumption) ?_ | refine Below.drew ?_ | refine Bel.drewN ?_ _ | refine Below.setCell ?_ (by first | exact Nat.le_refl _ | omega | (simp; done) | (simp; omega)) _)⟩
set_option maxHeartbeats 2000000 in
theorem IsCovered_S (R : Re) (A : Option Addr) (c : Nat) (ud ut vd vt : Int) (hn : R.ch.zs.length ≤ 1048576) (hm : R.ch.nm.size ≤ 1048576) (w : World) (hA : Ints w A R.ch.zs) :
    Calls Tryz.prog 16 #[.agg #[.int .i64 R.ch.dg, .int .i64 R.ch.tn, .string R.ch.nm, .slice A R.ch.zs.length c, .int .i64 R.ch.wd, .int .i64 R.ch.lf, .int .i64 R.ch.rt, .int .i64 R.ad, .int .i64 R.at_, .int .i64 R.bd, .int .i64 R.bt, .int .i64 R.cd, .int .i64 R.ct, .int .i64 R.dd, .int .i64 R.dt, .int .i64 R.ey, .int .i64 R.bo], .agg #[.int .i64 ud, .int .i64 ut], .agg #[.int .i64 vd, .int .i64 vt]] w fun e w' => e = .returned (.tuple #[.bool (icB R ud ut vd vt), .int .i64 (pkC R ud ut vd vt)]) ∧ Below w.heap.size w w' := by
  have HI := Lib.hid hA
  clear hA
  go_enter Tryz.func16, Tryz.ntmps16
  go_wp2_with fail
  go_at_call 62; refine (l27Code_c _ _ _ _ _ _ _ hn hm _ (by repeat (with_reducible first | exact HI.out | assumption | refine Ints.drew ?_ | refine Ints.drewN _ ?_ | refine Ints.alloc _ ?_ | refine Ints.step (by assumption) ?_))).mono ?_; rintro e w1 ⟨rfl, hb1⟩; obtain ⟨hc1, hf1, hz1⟩ := bel hb1; (try simp only [World.size_drew, World.cell?_drew, World.frozen?_drew, World.heap_drewN, World.cell?_drewN, World.frozen?_drewN] at hc1 hf1 hz1); (try have hl1 : w.heap.size < w1.heap.size := zl hb1); (try have hm1 : w.heap.size + 1 < w1.heap.size := zl hb1); (try have hn1 : w.heap.size + 1 + 1 < w1.heap.size := zl hb1); (try have hp1 : b < w1.heap.size := zl hb1); (try have ho1 : b' < w1.heap.size := by (have hq := hb1.size; (try simp at hq); omega))
  have hbel1 : Below w.heap.size w w1 := by repeat (with_reducible first | exact Below.refl _ _ | assumption | refine Bel.alloc ?_ _ | refine Bel.step (by assumption) ?_ | refine Below.drew ?_ | refine Bel.drewN ?_ _ | refine Below.setCell ?_ (by first | exact Nat.le_refl _ | omega | (simp; done) | (simp; omega)) _)
  have l3 : w.heap.size + 1 + 1 < w1.heap.size := by have := hb1.size; simp at this; omega
  have HB1 : Blk w1 w.heap.size 32 #[.int .i64 R.ch.dg, .int .i64 R.ch.tn, .string R.ch.nm, .slice A R.ch.zs.length c, .int .i64 R.ch.wd, .int .i64 R.ch.lf, .int .i64 R.ch.rt, .int .i64 R.ad, .int .i64 R.at_, .int .i64 R.bd, .int .i64 R.bt, .int .i64 R.cd, .int .i64 R.ct, .int .i64 R.dd, .int .i64 R.dt, .int .i64 R.ey, .int .i64 R.bo] := Blk.step hb1 (Blk.alloc _ (Blk.alloc _ (Blk.new _ _ _)))
  have u0 : w1.cell? ⟨w.heap.size + 1, 0, none⟩ = some (.int .i64 ud) := by simp [go_sem, *]
  have u1 : w1.cell? ⟨w.heap.size + 1, 1, none⟩ = some (.int .i64 ut) := by simp [go_sem, *]
  have v0 : w1.cell? ⟨w.heap.size + 1 + 1, 0, none⟩ = some (.int .i64 vd) := by simp [go_sem, *]
  have v1 : w1.cell? ⟨w.heap.size + 1 + 1, 1, none⟩ = some (.int .i64 vt) := by simp [go_sem, *]
  clear hb1 hc1 hf1 hz1
  have p0 : w1.cell? ⟨w.heap.size, 0, none⟩ = some (.int .i64 R.ch.dg) := by rw [HB1.cell]; rfl
  have p1 : w1.cell? ⟨w.heap.size, 1, none⟩ = some (.int .i64 R.ch.tn) := by rw [HB1.cell]; rfl
  have p2 : w1.cell? ⟨w.heap.size, 2, none⟩ = some (.string R.ch.nm) := by rw [HB1.cell]; rfl
  have p3 : w1.cell? ⟨w.heap.size, 3, none⟩ = some (.slice A R.ch.zs.length c) := by rw [HB1.cell]; rfl
  have p4 : w1.cell? ⟨w.heap.size, 4, none⟩ = some (.int .i64 R.ch.wd) := by rw [HB1.cell]; rfl
  have p5 : w1.cell? ⟨w.heap.size, 5, none⟩ = some (.int .i64 R.ch.lf) := by rw [HB1.cell]; rfl
  have p6 : w1.cell? ⟨w.heap.size, 6, none⟩ = some (.int .i64 R.ch.rt) := by rw [HB1.cell]; rfl
  have p7 : w1.cell? ⟨w.heap.size, 7, none⟩ = some (.int .i64 R.ad) := by rw [HB1.cell]; rfl
  have p8 : w1.cell? ⟨w.heap.size, 8, none⟩ = some (.int .i64 R.at_) := by rw [HB1.cell]; rfl
  have p9 : w1.cell? ⟨w.heap.size, 9, none⟩ = some (.int .i64 R.bd) := by rw [HB1.cell]; rfl
  have p10 : w1.cell? ⟨w.heap.size, 10, none⟩ = some (.int .i64 R.bt) := by rw [HB1.cell]; rfl
  have p11 : w1.cell? ⟨w.heap.size, 11, none⟩ = some (.int .i64 R.cd) := by rw [HB1.cell]; rfl
  have p12 : w1.cell? ⟨w.heap.size, 12, none⟩ = some (.int .i64 R.ct) := by rw [HB1.cell]; rfl
  have p13 : w1.cell? ⟨w.heap.size, 13, none⟩ = some (.int .i64 R.dd) := by rw [HB1.cell]; rfl
  have p14 : w1.cell? ⟨w.heap.size, 14, none⟩ = some (.int .i64 R.dt) := by rw [HB1.cell]; rfl
  have p15 : w1.cell? ⟨w.heap.size, 15, none⟩ = some (.int .i64 R.ey) := by rw [HB1.cell]; rfl
  have p16 : w1.cell? ⟨w.heap.size, 16, none⟩ = some (.int .i64 R.bo) := by rw [HB1.cell]; rfl
  clear HB1
  by_cases hx : pkC R ud ut vd vt = 0
  · have HX := Lib.hid hx
    have HK := Lib.hid (pkC_0 hx)
    rw [hx]
    clear hx
    go_wp2_with fail
    go_at_call 63; refine (l27Covered_c _ _ _ _ _ _ _ HK.out.1 HK.out.2.1 HK.out.2.2 _).mono ?_; rintro e w2 ⟨rfl, hb2⟩; obtain ⟨hc2, hf2, hz2⟩ := bel hb2; (try simp only [World.size_drew, World.cell?_drew, World.frozen?_drew, World.heap_drewN, World.cell?_drewN, World.frozen?_drewN] at hc2 hf2 hz2); (try have hl2 : w.heap.size < w2.heap.size := zl hb2); (try have hm2 : w.heap.size + 1 < w2.heap.size := zl hb2); (try have hn2 : w.heap.size + 1 + 1 < w2.heap.size := zl hb2); (try have hp2 : b < w2.heap.size := zl hb2); (try have ho2 : b' < w2.heap.size := by (have hq := hb2.size; (try simp at hq); omega))
    go_wp2
    go_ret2
    exact ⟨by simp only [icB, HX.out]; rfl, by repeat (with_reducible first | exact Below.refl _ _ | assumption | refine Bel.alloc ?_ _ | refine Bel.step (by assumption) ?_ | refine Below.drew ?_ | refine Bel.drewN ?_ _ | refine Below.setCell ?_ (by first | exact Nat.le_refl _ | omega | (simp; done) | (simp; omega)) _)⟩
  · have HX := Lib.hid (show icB R ud ut vd vt = false by simp [icB, hx])
    have b1 : (pkC R ud ut vd vt != 0) = true := by simpa using hx
    clear hx
    go_wp2
    go_ret2
    exact ⟨by rw [HX.out]; rfl, by repeat (with_reducible first | exact Below.refl _ _ | assumption | refine Bel.alloc ?_ _ | refine Bel.step (by assumption) ?_ | refine Below.drew ?_ | refine Bel.drewN ?_ _ | refine Below.setCell ?_ (by first | exact Nat.le_refl _ | omega | (simp; done) | (simp; omega)) _)⟩
set_option maxHeartbeats 2000000 in
theorem IsCovered_I (R : Re) (A : Option Addr) (c : Nat) (ud ut vd vt : Int) (hn : R.ch.zs.length ≤ 1048576) (hm : R.ch.nm.size ≤ 1048576) (w : World) (hA : Ints w A R.ch.zs) :
    Calls Tryz.prog 15 #[.agg #[.int .i64 R.ch.dg, .int .i64 R.ch.tn, .string R.ch.nm, .slice A R.ch.zs.length c, .int .i64 R.ch.wd, .int .i64 R.ch.lf, .int .i64 R.ch.rt, .int .i64 R.ad, .int .i64 R.at_, .int .i64 R.bd, .int .i64 R.bt, .int .i64 R.cd, .int .i64 R.ct, .int .i64 R.dd, .int .i64 R.dt, .int .i64 R.ey, .int .i64 R.bo], .agg #[.int .i64 ud, .int .i64 ut], .agg #[.int .i64 vd, .int .i64 vt]] w fun e w' => e = .returned (.tuple #[.bool (icB R ud ut vd vt), .int .i64 (pkC R ud ut vd vt)]) ∧ Below w.heap.size w w' := by
  have HI := Lib.hid hA
  clear hA
  go_enter Tryz.func15, Tryz.ntmps15
  go_wp2_with fail
  go_at_call 57; refine (checkPair_c _ _ _ _ _ _ _ hn hm _ (by repeat (with_reducible first | exact HI.out | assumption | refine Ints.drew ?_ | refine Ints.drewN _ ?_ | refine Ints.alloc _ ?_ | refine Ints.step (by assumption) ?_))).mono ?_; rintro e w1 ⟨rfl, hb1⟩; obtain ⟨hc1, hf1, hz1⟩ := bel hb1; (try simp only [World.size_drew, World.cell?_drew, World.frozen?_drew, World.heap_drewN, World.cell?_drewN, World.frozen?_drewN] at hc1 hf1 hz1); (try have hl1 : w.heap.size < w1.heap.size := zl hb1); (try have hm1 : w.heap.size + 1 < w1.heap.size := zl hb1); (try have hn1 : w.heap.size + 1 + 1 < w1.heap.size := zl hb1); (try have hp1 : b < w1.heap.size := zl hb1); (try have ho1 : b' < w1.heap.size := by (have hq := hb1.size; (try simp at hq); omega))
  have hbel1 : Below w.heap.size w w1 := by repeat (with_reducible first | exact Below.refl _ _ | assumption | refine Bel.alloc ?_ _ | refine Bel.step (by assumption) ?_ | refine Below.drew ?_ | refine Bel.drewN ?_ _ | refine Below.setCell ?_ (by first | exact Nat.le_refl _ | omega | (simp; done) | (simp; omega)) _)
  have l3 : w.heap.size + 1 + 1 < w1.heap.size := by have := hb1.size; simp at this; omega
  have HB1 : Blk w1 w.heap.size 32 #[.int .i64 R.ch.dg, .int .i64 R.ch.tn, .string R.ch.nm, .slice A R.ch.zs.length c, .int .i64 R.ch.wd, .int .i64 R.ch.lf, .int .i64 R.ch.rt, .int .i64 R.ad, .int .i64 R.at_, .int .i64 R.bd, .int .i64 R.bt, .int .i64 R.cd, .int .i64 R.ct, .int .i64 R.dd, .int .i64 R.dt, .int .i64 R.ey, .int .i64 R.bo] := Blk.step hb1 (Blk.alloc _ (Blk.alloc _ (Blk.new _ _ _)))
  have u0 : w1.cell? ⟨w.heap.size + 1, 0, none⟩ = some (.int .i64 ud) := by simp [go_sem, *]
  have u1 : w1.cell? ⟨w.heap.size + 1, 1, none⟩ = some (.int .i64 ut) := by simp [go_sem, *]
  have v0 : w1.cell? ⟨w.heap.size + 1 + 1, 0, none⟩ = some (.int .i64 vd) := by simp [go_sem, *]
  have v1 : w1.cell? ⟨w.heap.size + 1 + 1, 1, none⟩ = some (.int .i64 vt) := by simp [go_sem, *]
  clear hb1 hc1 hf1 hz1
  have p0 : w1.cell? ⟨w.heap.size, 0, none⟩ = some (.int .i64 R.ch.dg) := by rw [HB1.cell]; rfl
  have p1 : w1.cell? ⟨w.heap.size, 1, none⟩ = some (.int .i64 R.ch.tn) := by rw [HB1.cell]; rfl
  have p2 : w1.cell? ⟨w.heap.size, 2, none⟩ = some (.string R.ch.nm) := by rw [HB1.cell]; rfl
  have p3 : w1.cell? ⟨w.heap.size, 3, none⟩ = some (.slice A R.ch.zs.length c) := by rw [HB1.cell]; rfl
  have p4 : w1.cell? ⟨w.heap.size, 4, none⟩ = some (.int .i64 R.ch.wd) := by rw [HB1.cell]; rfl
  have p5 : w1.cell? ⟨w.heap.size, 5, none⟩ = some (.int .i64 R.ch.lf) := by rw [HB1.cell]; rfl
  have p6 : w1.cell? ⟨w.heap.size, 6, none⟩ = some (.int .i64 R.ch.rt) := by rw [HB1.cell]; rfl
  have p7 : w1.cell? ⟨w.heap.size, 7, none⟩ = some (.int .i64 R.ad) := by rw [HB1.cell]; rfl
  have p8 : w1.cell? ⟨w.heap.size, 8, none⟩ = some (.int .i64 R.at_) := by rw [HB1.cell]; rfl
  have p9 : w1.cell? ⟨w.heap.size, 9, none⟩ = some (.int .i64 R.bd) := by rw [HB1.cell]; rfl
  have p10 : w1.cell? ⟨w.heap.size, 10, none⟩ = some (.int .i64 R.bt) := by rw [HB1.cell]; rfl
  have p11 : w1.cell? ⟨w.heap.size, 11, none⟩ = some (.int .i64 R.cd) := by rw [HB1.cell]; rfl
  have p12 : w1.cell? ⟨w.heap.size, 12, none⟩ = some (.int .i64 R.ct) := by rw [HB1.cell]; rfl
  have p13 : w1.cell? ⟨w.heap.size, 13, none⟩ = some (.int .i64 R.dd) := by rw [HB1.cell]; rfl
  have p14 : w1.cell? ⟨w.heap.size, 14, none⟩ = some (.int .i64 R.dt) := by rw [HB1.cell]; rfl
  have p15 : w1.cell? ⟨w.heap.size, 15, none⟩ = some (.int .i64 R.ey) := by rw [HB1.cell]; rfl
  have p16 : w1.cell? ⟨w.heap.size, 16, none⟩ = some (.int .i64 R.bo) := by rw [HB1.cell]; rfl
  clear HB1
  by_cases hx : pkC R ud ut vd vt = 0
  · have HX := Lib.hid hx
    have HK := Lib.hid (pkC_0 hx)
    rw [hx]
    clear hx
    go_wp2_with fail
    go_at_call 58; refine (isCovered_c _ _ _ _ _ _ _ HK.out.1 HK.out.2.1 HK.out.2.2 _).mono ?_; rintro e w2 ⟨rfl, hb2⟩; obtain ⟨hc2, hf2, hz2⟩ := bel hb2; (try simp only [World.size_drew, World.cell?_drew, World.frozen?_drew, World.heap_drewN, World.cell?_drewN, World.frozen?_drewN] at hc2 hf2 hz2); (try have hl2 : w.heap.size < w2.heap.size := zl hb2); (try have hm2 : w.heap.size + 1 < w2.heap.size := zl hb2); (try have hn2 : w.heap.size + 1 + 1 < w2.heap.size := zl hb2); (try have hp2 : b < w2.heap.size := zl hb2); (try have ho2 : b' < w2.heap.size := by (have hq := hb2.size; (try simp at hq); omega))
    go_wp2
    go_ret2
    exact ⟨by simp only [icB, HX.out]; rfl, by repeat (with_reducible first | exact Below.refl _ _ | assumption | refine Bel.alloc ?_ _ | refine Bel.step (by assumption) ?_ | refine Below.drew ?_ | refine Bel.drewN ?_ _ | refine Below.setCell ?_ (by first | exact Nat.le_refl _ | omega | (simp; done) | (simp; omega)) _)⟩
  · have HX := Lib.hid (show icB R ud ut vd vt = false by simp [icB, hx])
    have b1 : (pkC R ud ut vd vt != 0) = true := by simpa using hx
    clear hx
    go_wp2
    go_ret2
    exact ⟨by rw [HX.out]; rfl, by repeat (with_reducible first | exact Below.refl _ _ | assumption | refine Bel.alloc ?_ _ | refine Bel.step (by assumption) ?_ | refine Below.drew ?_ | refine Bel.drewN ?_ _ | refine Below.setCell ?_ (by first | exact Nat.le_refl _ | omega | (simp; done) | (simp; omega)) _)⟩
set_option maxHeartbeats 4000000 in
theorem IsKept_I (R : Re) (A : Option Addr) (c : Nat) (hn : R.ch.zs.length ≤ 1048576) (hm : R.ch.nm.size ≤ 1048576) (w : World) (hA : Ints w A R.ch.zs) :
    Calls Tryz.prog 25 #[.agg #[.int .i64 R.ch.dg, .int .i64 R.ch.tn, .string R.ch.nm, .slice A R.ch.zs.length c, .int .i64 R.ch.wd, .int .i64 R.ch.lf, .int .i64 R.ch.rt, .int .i64 R.ad, .int .i64 R.at_, .int .i64 R.bd, .int .i64 R.bt, .int .i64 R.cd, .int .i64 R.ct, .int .i64 R.dd, .int .i64 R.dt, .int .i64 R.ey, .int .i64 R.bo]] w fun e w' => e = .returned (.tuple #[.bool (ikB R), .int .i64 (ikC R)]) ∧ Below w.heap.size w w' := by
  have HI := Lib.hid hA
  clear hA
  go_enter Tryz.func25, Tryz.ntmps25
  go_wp2_with fail
  go_at_call 21; refine (IsRelease_I _ _ _ hn hm _ (by repeat (with_reducible first | exact HI.out | assumption | refine Ints.drew ?_ | refine Ints.drewN _ ?_ | refine Ints.alloc _ ?_ | refine Ints.step (by assumption) ?_))).mono ?_; rintro e w1 ⟨rfl, hb1⟩; obtain ⟨hc1, hf1, hz1⟩ := bel hb1; (try simp only [World.size_drew, World.cell?_drew, World.frozen?_drew, World.heap_drewN, World.cell?_drewN, World.frozen?_drewN] at hc1 hf1 hz1); (try have hl1 : w.heap.size < w1.heap.size := zl hb1); (try have hm1 : w.heap.size + 1 < w1.heap.size := zl hb1); (try have hn1 : w.heap.size + 1 + 1 < w1.heap.size := zl hb1); (try have hp1 : b < w1.heap.size := zl hb1); (try have ho1 : b' < w1.heap.size := by (have hq := hb1.size; (try simp at hq); omega))
  have hbel1 : Below w.heap.size w w1 := by repeat (with_reducible first | exact Below.refl _ _ | assumption | refine Bel.alloc ?_ _ | refine Bel.step (by assumption) ?_ | refine Below.drew ?_ | refine Bel.drewN ?_ _ | refine Below.setCell ?_ (by first | exact Nat.le_refl _ | omega | (simp; done) | (simp; omega)) _)
  have HB1 : Blk w1 w.heap.size 32 #[.int .i64 R.ch.dg, .int .i64 R.ch.tn, .string R.ch.nm, .slice A R.ch.zs.length c, .int .i64 R.ch.wd, .int .i64 R.ch.lf, .int .i64 R.ch.rt, .int .i64 R.ad, .int .i64 R.at_, .int .i64 R.bd, .int .i64 R.bt, .int .i64 R.cd, .int .i64 R.ct, .int .i64 R.dd, .int .i64 R.dt, .int .i64 R.ey, .int .i64 R.bo] := Blk.step hb1 (Blk.new _ _ _)
  clear hb1 hc1 hf1 hz1
  have p0 : w1.cell? ⟨w.heap.size, 0, none⟩ = some (.int .i64 R.ch.dg) := by rw [HB1.cell]; rfl
  have p1 : w1.cell? ⟨w.heap.size, 1, none⟩ = some (.int .i64 R.ch.tn) := by rw [HB1.cell]; rfl
  have p2 : w1.cell? ⟨w.heap.size, 2, none⟩ = some (.string R.ch.nm) := by rw [HB1.cell]; rfl
  have p3 : w1.cell? ⟨w.heap.size, 3, none⟩ = some (.slice A R.ch.zs.length c) := by rw [HB1.cell]; rfl
  have p4 : w1.cell? ⟨w.heap.size, 4, none⟩ = some (.int .i64 R.ch.wd) := by rw [HB1.cell]; rfl
  have p5 : w1.cell? ⟨w.heap.size, 5, none⟩ = some (.int .i64 R.ch.lf) := by rw [HB1.cell]; rfl
  have p6 : w1.cell? ⟨w.heap.size, 6, none⟩ = some (.int .i64 R.ch.rt) := by rw [HB1.cell]; rfl
  have p7 : w1.cell? ⟨w.heap.size, 7, none⟩ = some (.int .i64 R.ad) := by rw [HB1.cell]; rfl
  have p8 : w1.cell? ⟨w.heap.size, 8, none⟩ = some (.int .i64 R.at_) := by rw [HB1.cell]; rfl
  have p9 : w1.cell? ⟨w.heap.size, 9, none⟩ = some (.int .i64 R.bd) := by rw [HB1.cell]; rfl
  have p10 : w1.cell? ⟨w.heap.size, 10, none⟩ = some (.int .i64 R.bt) := by rw [HB1.cell]; rfl
  have p11 : w1.cell? ⟨w.heap.size, 11, none⟩ = some (.int .i64 R.cd) := by rw [HB1.cell]; rfl
  have p12 : w1.cell? ⟨w.heap.size, 12, none⟩ = some (.int .i64 R.ct) := by rw [HB1.cell]; rfl
  have p13 : w1.cell? ⟨w.heap.size, 13, none⟩ = some (.int .i64 R.dd) := by rw [HB1.cell]; rfl
  have p14 : w1.cell? ⟨w.heap.size, 14, none⟩ = some (.int .i64 R.dt) := by rw [HB1.cell]; rfl
  have p15 : w1.cell? ⟨w.heap.size, 15, none⟩ = some (.int .i64 R.ey) := by rw [HB1.cell]; rfl
  have p16 : w1.cell? ⟨w.heap.size, 16, none⟩ = some (.int .i64 R.bo) := by rw [HB1.cell]; rfl
  clear HB1
  cases hx : okRe R
  · have HX := Lib.hid hx
    clear hx
    go_wp2
    go_ret2
    exact ⟨by simp only [ikB, ikC, HX.out]; rfl, by repeat (with_reducible first | exact Below.refl _ _ | assumption | refine Bel.alloc ?_ _ | refine Bel.step (by assumption) ?_ | refine Below.drew ?_ | refine Bel.drewN ?_ _ | refine Below.setCell ?_ (by first | exact Nat.le_refl _ | omega | (simp; done) | (simp; omega)) _)⟩
  obtain ⟨k1, _, _, _, _, k2, _⟩ := okRe_iff hx
  obtain ⟨e1, e2⟩ := inB_iff.1 k2
  have HX := Lib.hid hx
  have HK := Lib.hid k1
  clear hx k1 k2
  go_wp2
  go_region_held3 (fun w' => w'.cell? ⟨w.heap.size, 0, none⟩ = some (.int .i64 R.ch.dg) ∧ w'.cell? ⟨w.heap.size, 1, none⟩ = some (.int .i64 R.ch.tn) ∧ w'.cell? ⟨w.heap.size, 2, none⟩ = some (.string R.ch.nm) ∧ w'.cell? ⟨w.heap.size, 3, none⟩ = some (.slice A R.ch.zs.length c) ∧ w'.cell? ⟨w.heap.size, 4, none⟩ = some (.int .i64 R.ch.wd) ∧ w'.cell? ⟨w.heap.size, 5, none⟩ = some (.int .i64 R.ch.lf) ∧ w'.cell? ⟨w.heap.size, 6, none⟩ = some (.int .i64 R.ch.rt) ∧ w'.cell? ⟨w.heap.size, 15, none⟩ = some (.int .i64 R.ey) ∧ w'.cell? ⟨w.heap.size, 16, none⟩ = some (.int .i64 R.bo)) (simp [go_sem, *])
      (first | (go_at_call 48; refine (safeBound_c _ _ _ _ HK.out (by omega) (by omega) _ (by repeat (with_reducible first | exact HI.out | assumption | refine Ints.drew ?_ | refine Ints.drewN _ ?_ | refine Ints.alloc _ ?_ | refine Ints.step (by assumption) ?_))).mono ?_; rintro e w1 ⟨rfl, hb1⟩; obtain ⟨hc1, hf1, hz1⟩ := bel hb1; (try simp only [World.size_drew, World.cell?_drew, World.frozen?_drew, World.heap_drewN, World.cell?_drewN, World.frozen?_drewN] at hc1 hf1 hz1); (try have hl1 : w.heap.size < w1.heap.size := zl hb1); (try have hm1 : w.heap.size + 1 < w1.heap.size := zl hb1); (try have hn1 : w.heap.size + 1 + 1 < w1.heap.size := zl hb1); (try have hp1 : b < w1.heap.size := zl hb1); (try have ho1 : b' < w1.heap.size := by (have hq := hb1.size; (try simp at hq); omega))))
  all_goals
    go_wp2
    go_ret2
    exact ⟨by simp only [ikB, ikC, HX.out]; rfl, by repeat (with_reducible first | exact Below.refl _ _ | assumption | refine Bel.alloc ?_ _ | refine Bel.step (by assumption) ?_ | refine Below.drew ?_ | refine Bel.drewN ?_ _ | refine Below.setCell ?_ (by first | exact Nat.le_refl _ | omega | (simp; done) | (simp; omega)) _)⟩
open Go.RowKit
set_option linter.unusedVariables false
theorem fg_mono {a b c d : Int} (h1 : okF a b = true) (h2 : okF c d = true) (h : fc a b c d ≤ 0) : fgLo a b ≤ fgLo c d ∧ fgHi a b ≤ fgHi c d := by
  obtain ⟨a1, a2, b1, b2⟩ := okF_iff h1
  obtain ⟨c1, c2, d1, d2⟩ := okF_iff h2
  have hx : 10000 * b + a ≤ 10000 * d + c := by
    unfold fc at h
    (repeat' split at h) <;> omega
  rcases Int.lt_or_le b d with hbd | hbd
  · have p := lgLo_bd (a * 100000) (by omega) (by omega)
    have q := lgLo_bd (c * 100000) (by omega) (by omega)
    have r := lgHi_bd (a * 100000) (by omega) (by omega)
    have s := lgHi_bd (c * 100000) (by omega) (by omega)
    unfold fgLo fgHi
    omega
  · have e : b = d := by omega
    subst e
    have p := lgLo_mono (x := a * 100000) (y := c * 100000) (by omega) (by omega) (by omega)
    have q := lgHi_mono (x := a * 100000) (y := c * 100000) (by omega) (by omega) (by omega)
    unfold fgLo fgHi
    omega
theorem cp_mono {C : Ch} {sc a b c d : Int} (hD : 0 < cpD C sc) (l : fgLo a b ≤ fgLo c d) (h : fgHi a b ≤ fgHi c d) :
    (0 ≤ cpN C sc → cpL C sc a b ≤ cpL C sc c d ∧ cpH C sc a b ≤ cpH C sc c d) ∧ (cpN C sc ≤ 0 → cpL C sc c d ≤ cpL C sc a b ∧ cpH C sc c d ≤ cpH C sc a b) := by
  have hA : cpA C sc a b ≤ cpA C sc c d := by unfold cpA; split <;> omega
  have hB : cpB C sc a b ≤ cpB C sc c d := by unfold cpB; split <;> omega
  constructor
  · intro hN
    have m1 := Int.mul_le_mul_of_nonneg_right hA hN
    have m2 := Int.mul_le_mul_of_nonneg_right hB hN
    unfold cpL cpH
    exact ⟨Fl_mono (by omega) (by unfold mn; split <;> split <;> omega), Cl_mono (by omega) (by unfold mx; split <;> split <;> omega)⟩
  · intro hN
    have m1 := Int.mul_le_mul_of_nonpos_right hA hN
    have m2 := Int.mul_le_mul_of_nonpos_right hB hN
    unfold cpL cpH
    exact ⟨Fl_mono (by omega) (by unfold mn; split <;> split <;> omega), Cl_mono (by omega) (by unfold mx; split <;> split <;> omega)⟩
theorem plC_iff {C : Ch} {sc a b : Int} : plC C sc a b = 0 ↔ (-100000 ≤ cpL C sc a b ∧ cpL C sc a b ≤ 100000) ∧ -100000 ≤ cpH C sc a b ∧ cpH C sc a b ≤ 100000 := by
  unfold plC
  constructor
  · intro h
    split at h
    · rename_i hh
      simp only [Bool.and_eq_true] at hh
      exact ⟨inB_iff.1 hh.1, inB_iff.1 hh.2⟩
    · cases h
  · rintro ⟨h1, h2⟩
    rw [if_pos (by rw [inB_iff.2 h1, inB_iff.2 h2]; rfl)]
theorem pl_between {C : Ch} {sc a b c d e f : Int} (hC : okCh C = true) (h1 : okF a b = true) (h2 : okF c d = true) (h3 : okF e f = true) (l1 : fc a b c d ≤ 0) (l2 : fc c d e f ≤ 0) (p1 : plC C sc a b = 0) (p2 : plC C sc e f = 0) : plC C sc c d = 0 := by
  have hD := (cpD_bd hC sc).1
  obtain ⟨u1, u2⟩ := fg_mono h1 h2 l1
  obtain ⟨v1, v2⟩ := fg_mono h2 h3 l2
  obtain ⟨x1, x2⟩ := cp_mono (C := C) (sc := sc) (by omega) u1 u2
  obtain ⟨y1, y2⟩ := cp_mono (C := C) (sc := sc) (by omega) v1 v2
  rw [plC_iff] at p1 p2 ⊢
  rcases Int.le_total 0 (cpN C sc) with hN | hN
  · have := x1 hN
    have := y1 hN
    omega
  · have := x2 hN
    have := y2 hN
    omega
theorem pcC_two {C : Ch} {sc a b c d : Int} (h : pcC C sc [(a, b), (c, d)] = 0) : plC C sc a b = 0 ∧ plC C sc c d = 0 := by
  unfold pcC at h
  split at h
  · rename_i hh
    simpa [ptOk] using hh
  · cases h
theorem cov_lh {R : Re} {ud ut vd vt : Int} (h : okRe R = true) (hu : okF ud ut = true) (hv : okF vd vt = true) (hc : cvR R ud ut vd vt = true) : lhC R.ch ud ut vd vt = 0 := by
  obtain ⟨k, a, b, c, d, _, _, _, _, p, q⟩ := okRe_iff h
  simp only [cvR, liB, Bool.and_eq_true, decide_eq_true_eq] at hc
  obtain ⟨⟨l1, l2⟩, l3, l4⟩ := hc
  obtain ⟨p1, p2⟩ := pcC_two p
  obtain ⟨q1, q2⟩ := pcC_two q
  have e0 := pl_between k a hu b l1 l2 p1 p2
  have e1 := pl_between k c hv d l3 l4 q1 q2
  simp [lhC, e0, e1]
end Go.Proofs.YtpmcgicopogbhaaGreat
