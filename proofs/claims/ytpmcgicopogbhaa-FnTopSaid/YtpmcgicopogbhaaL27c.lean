/- Chapter 27: covered pairs and kept releases. Conditions: as stated at each contract. -/
import Derived.Test.YtpmcgicopogbhaaProg
import Derived.Test.YtpmcgicopogbhaaBase
import Derived.Test.YtpmcgicopogbhaaRw
import Derived.Test.YtpmcgicopogbhaaL01
import Derived.Test.YtpmcgicopogbhaaCp
import Derived.Test.YtpmcgicopogbhaaL18
import Derived.Test.YtpmcgicopogbhaaL23
import Derived.Test.YtpmcgicopogbhaaL03
import Derived.Test.YtpmcgicopogbhaaL23d
import Derived.Test.YtpmcgicopogbhaaL23e
import Derived.Test.YtpmcgicopogbhaaL23f
import Derived.Test.YtpmcgicopogbhaaL24
import Derived.Test.YtpmcgicopogbhaaL24b
import Derived.Test.YtpmcgicopogbhaaL23g
import Derived.Test.YtpmcgicopogbhaaL23h
import Derived.Test.YtpmcgicopogbhaaL27o
import Derived.Test.YtpmcgicopogbhaaL27a
import Derived.Test.YtpmcgicopogbhaaL27b
import Derived.WalkKit
import Derived.WalkSpells
import Derived.WalkLawsBesides
import Derived.Lib.Hide
import Derived.Deep.QuietTactic
import Derived.BigQuiet
import Derived.Deep.Draws
import Derived.Deep.RegionHeld3
namespace Go.Proofs.Ytpmcgicopogbhaa
open Go.RowKit
set_option linter.unusedVariables false
/-- Does a figure lie in a range? -/
def liB (a b c d e f : Int) : Bool := decide (fc c d a b ≤ 0) && decide (fc a b e f ≤ 0)
/-- Is a pair covered? -/
def cvR (R : Re) (ud ut vd vt : Int) : Bool := liB ud ut R.ad R.at_ R.bd R.bt && liB vd vt R.cd R.ct R.dd R.dt
theorem cvR_eq (R : Re) (ud ut vd vt : Int) : cvR R ud ut vd vt = (((decide (fc R.ad R.at_ ud ut ≤ 0) && decide (fc ud ut R.bd R.bt ≤ 0)) && decide (fc R.cd R.ct vd vt ≤ 0)) && decide (fc vd vt R.dd R.dt ≤ 0)) := by
  simp only [cvR, liB, Bool.and_assoc]
/-- The code of a release and two figures. -/
def pkC (R : Re) (ud ut vd vt : Int) : Int := if (okRe R && (okF ud ut && okF vd vt)) = true then 0 else 1
theorem pkC_0 {R : Re} {ud ut vd vt : Int} (h : pkC R ud ut vd vt = 0) : okRe R = true ∧ okF ud ut = true ∧ okF vd vt = true := by
  unfold pkC at h
  split at h
  · rename_i h'; simpa using h'
  · cases h
def icB (R : Re) (ud ut vd vt : Int) : Bool := decide (pkC R ud ut vd vt = 0) && cvR R ud ut vd vt
def ikC (R : Re) : Int := if okRe R = true then 0 else 1
def ikB (R : Re) : Bool := okRe R && decide (sbV R.ch R.ey ≤ R.bo)
set_option maxHeartbeats 2000000 in
theorem l27Code_c (R : Re) (A : Option Addr) (c : Nat) (ud ut vd vt : Int) (hn : R.ch.zs.length ≤ 1048576) (hm : R.ch.nm.size ≤ 1048576) (w : World) (hA : Ints w A R.ch.zs) :
    Calls Try.prog 71 #[.agg #[.int .i64 R.ch.dg, .int .i64 R.ch.tn, .string R.ch.nm, .slice A R.ch.zs.length c, .int .i64 R.ch.wd, .int .i64 R.ch.lf, .int .i64 R.ch.rt, .int .i64 R.ad, .int .i64 R.at_, .int .i64 R.bd, .int .i64 R.bt, .int .i64 R.cd, .int .i64 R.ct, .int .i64 R.dd, .int .i64 R.dt, .int .i64 R.ey, .int .i64 R.bo], .agg #[.int .i64 ud, .int .i64 ut], .agg #[.int .i64 vd, .int .i64 vt]] w fun e w' => e = .returned (.int .i64 (pkC R ud ut vd vt)) ∧ Below w.heap.size w w' := by
  have HI := Lib.hid hA
  clear hA
  go_enter Try.func71, Try.ntmps71
  go_wp2_with fail
  go_at_call 76; refine (IsRelease_S _ _ _ hn hm _ (by repeat (with_reducible first | exact HI.out | assumption | refine Ints.drew ?_ | refine Ints.drewN _ ?_ | refine Ints.alloc _ ?_ | refine Ints.step (by assumption) ?_))).mono ?_; rintro e w1 ⟨rfl, hb1⟩; obtain ⟨hc1, hf1, hz1⟩ := bel hb1; (try simp only [World.size_drew, World.cell?_drew, World.frozen?_drew] at hc1 hf1 hz1); (try simp only [World.heap_drewN, World.cell?_drewN, World.frozen?_drewN] at hc1 hf1 hz1); (try have hl1 : w.heap.size < w1.heap.size := by (have hq := hb1.size; (try simp at hq); omega)); (try have hm1 : w.heap.size + 1 < w1.heap.size := by (have hq := hb1.size; (try simp at hq); omega)); (try have hn1 : w.heap.size + 1 + 1 < w1.heap.size := by (have hq := hb1.size; (try simp at hq); omega)); (try have hp1 : b < w1.heap.size := by (have hq := hb1.size; (try simp at hq); omega)); (try have ho1 : b' < w1.heap.size := by (have hq := hb1.size; (try simp at hq); omega))
  have hbel1 : Below w.heap.size w w1 := by repeat (with_reducible first | exact Below.refl _ _ | assumption | refine Bel.alloc ?_ _ | refine Bel.step (by assumption) ?_ | refine Below.drew ?_ | refine Bel.drewN ?_ _ | refine Below.setCell ?_ (by first | exact Nat.le_refl _ | omega | (simp; done) | (simp; omega)) _)
  have l3 : w.heap.size + 1 + 1 < w1.heap.size := by have := hb1.size; simp at this; omega
  have u0 : w1.cell? ⟨w.heap.size + 1, 0, none⟩ = some (.int .i64 ud) := by simp [go_sem, *]
  have u1 : w1.cell? ⟨w.heap.size + 1, 1, none⟩ = some (.int .i64 ut) := by simp [go_sem, *]
  have v0 : w1.cell? ⟨w.heap.size + 1 + 1, 0, none⟩ = some (.int .i64 vd) := by simp [go_sem, *]
  have v1 : w1.cell? ⟨w.heap.size + 1 + 1, 1, none⟩ = some (.int .i64 vt) := by simp [go_sem, *]
  clear hb1 hc1 hf1 hz1
  cases hx : okRe R
  · have HX := Lib.hid hx
    clear hx
    go_wp2
    go_ret
    exact ⟨ret_int (by simp [pkC, HX.out]), by repeat (with_reducible first | exact Below.refl _ _ | assumption | refine Bel.alloc ?_ _ | refine Bel.step (by assumption) ?_ | refine Below.drew ?_ | refine Bel.drewN ?_ _ | refine Below.setCell ?_ (by first | exact Nat.le_refl _ | omega | (simp; done) | (simp; omega)) _)⟩
  have H1 := Lib.hid hx
  clear hx
  go_wp2_with fail
  go_at_call 155; refine (l02Two_c _ _ _ _ _).mono ?_; rintro e w2 ⟨rfl, hb2⟩; obtain ⟨hc2, hf2, hz2⟩ := bel hb2; (try simp only [World.size_drew, World.cell?_drew, World.frozen?_drew] at hc2 hf2 hz2); (try simp only [World.heap_drewN, World.cell?_drewN, World.frozen?_drewN] at hc2 hf2 hz2); (try have hl2 : w.heap.size < w2.heap.size := by (have hq := hb2.size; (try simp at hq); omega)); (try have hm2 : w.heap.size + 1 < w2.heap.size := by (have hq := hb2.size; (try simp at hq); omega)); (try have hn2 : w.heap.size + 1 + 1 < w2.heap.size := by (have hq := hb2.size; (try simp at hq); omega)); (try have hp2 : b < w2.heap.size := by (have hq := hb2.size; (try simp at hq); omega)); (try have ho2 : b' < w2.heap.size := by (have hq := hb2.size; (try simp at hq); omega))
  cases hx : (okF ud ut && okF vd vt)
  · have HX := Lib.hid hx
    clear hx
    go_wp2
    go_ret
    exact ⟨ret_int (by simp only [pkC, HX.out, Bool.and_false]; rfl), by repeat (with_reducible first | exact Below.refl _ _ | assumption | refine Bel.alloc ?_ _ | refine Bel.step (by assumption) ?_ | refine Below.drew ?_ | refine Bel.drewN ?_ _ | refine Below.setCell ?_ (by first | exact Nat.le_refl _ | omega | (simp; done) | (simp; omega)) _)⟩
  · have HX := Lib.hid hx
    clear hx
    go_wp2
    go_ret
    exact ⟨ret_int (by simp only [pkC, H1.out, HX.out]; rfl), by repeat (with_reducible first | exact Below.refl _ _ | assumption | refine Bel.alloc ?_ _ | refine Bel.step (by assumption) ?_ | refine Below.drew ?_ | refine Bel.drewN ?_ _ | refine Below.setCell ?_ (by first | exact Nat.le_refl _ | omega | (simp; done) | (simp; omega)) _)⟩
set_option maxHeartbeats 2000000 in
theorem checkPair_c (R : Re) (A : Option Addr) (c : Nat) (ud ut vd vt : Int) (hn : R.ch.zs.length ≤ 1048576) (hm : R.ch.nm.size ≤ 1048576) (w : World) (hA : Ints w A R.ch.zs) :
    Calls Try.prog 68 #[.agg #[.int .i64 R.ch.dg, .int .i64 R.ch.tn, .string R.ch.nm, .slice A R.ch.zs.length c, .int .i64 R.ch.wd, .int .i64 R.ch.lf, .int .i64 R.ch.rt, .int .i64 R.ad, .int .i64 R.at_, .int .i64 R.bd, .int .i64 R.bt, .int .i64 R.cd, .int .i64 R.ct, .int .i64 R.dd, .int .i64 R.dt, .int .i64 R.ey, .int .i64 R.bo], .agg #[.int .i64 ud, .int .i64 ut], .agg #[.int .i64 vd, .int .i64 vt]] w fun e w' => e = .returned (.int .i64 (pkC R ud ut vd vt)) ∧ Below w.heap.size w w' := by
  have HI := Lib.hid hA
  clear hA
  go_enter Try.func68, Try.ntmps68
  go_wp2_with fail
  go_at_call 74; refine (IsRelease_I _ _ _ hn hm _ (by repeat (with_reducible first | exact HI.out | assumption | refine Ints.drew ?_ | refine Ints.drewN _ ?_ | refine Ints.alloc _ ?_ | refine Ints.step (by assumption) ?_))).mono ?_; rintro e w1 ⟨rfl, hb1⟩; obtain ⟨hc1, hf1, hz1⟩ := bel hb1; (try simp only [World.size_drew, World.cell?_drew, World.frozen?_drew] at hc1 hf1 hz1); (try simp only [World.heap_drewN, World.cell?_drewN, World.frozen?_drewN] at hc1 hf1 hz1); (try have hl1 : w.heap.size < w1.heap.size := by (have hq := hb1.size; (try simp at hq); omega)); (try have hm1 : w.heap.size + 1 < w1.heap.size := by (have hq := hb1.size; (try simp at hq); omega)); (try have hn1 : w.heap.size + 1 + 1 < w1.heap.size := by (have hq := hb1.size; (try simp at hq); omega)); (try have hp1 : b < w1.heap.size := by (have hq := hb1.size; (try simp at hq); omega)); (try have ho1 : b' < w1.heap.size := by (have hq := hb1.size; (try simp at hq); omega))
  have hbel1 : Below w.heap.size w w1 := by repeat (with_reducible first | exact Below.refl _ _ | assumption | refine Bel.alloc ?_ _ | refine Bel.step (by assumption) ?_ | refine Below.drew ?_ | refine Bel.drewN ?_ _ | refine Below.setCell ?_ (by first | exact Nat.le_refl _ | omega | (simp; done) | (simp; omega)) _)
  have l3 : w.heap.size + 1 + 1 < w1.heap.size := by have := hb1.size; simp at this; omega
  have u0 : w1.cell? ⟨w.heap.size + 1, 0, none⟩ = some (.int .i64 ud) := by simp [go_sem, *]
  have u1 : w1.cell? ⟨w.heap.size + 1, 1, none⟩ = some (.int .i64 ut) := by simp [go_sem, *]
  have v0 : w1.cell? ⟨w.heap.size + 1 + 1, 0, none⟩ = some (.int .i64 vd) := by simp [go_sem, *]
  have v1 : w1.cell? ⟨w.heap.size + 1 + 1, 1, none⟩ = some (.int .i64 vt) := by simp [go_sem, *]
  clear hb1 hc1 hf1 hz1
  cases hx : okRe R
  · have HX := Lib.hid hx
    clear hx
    go_wp2
    go_ret
    exact ⟨ret_int (by simp [pkC, HX.out]), by repeat (with_reducible first | exact Below.refl _ _ | assumption | refine Bel.alloc ?_ _ | refine Bel.step (by assumption) ?_ | refine Below.drew ?_ | refine Bel.drewN ?_ _ | refine Below.setCell ?_ (by first | exact Nat.le_refl _ | omega | (simp; done) | (simp; omega)) _)⟩
  have H1 := Lib.hid hx
  clear hx
  go_wp2_with fail
  go_at_call 153; refine (areFigures_c _ _ [(ud, ut), (vd, vt)] (by simp) _ (Prs.mk2 _ _ _ _ _ _)).mono ?_; rintro e w2 ⟨rfl, hb2⟩
  rw [okFs_two]
  cases hx : (okF ud ut && okF vd vt)
  · have HX := Lib.hid hx
    clear hx
    go_wp2
    go_ret
    exact ⟨ret_int (by simp only [pkC, HX.out, Bool.and_false]; rfl), by repeat (with_reducible first | exact Below.refl _ _ | assumption | refine Bel.alloc ?_ _ | refine Bel.step (by assumption) ?_ | refine Below.drew ?_ | refine Bel.drewN ?_ _ | refine Below.setCell ?_ (by first | exact Nat.le_refl _ | omega | (simp; done) | (simp; omega)) _)⟩
  · have HX := Lib.hid hx
    clear hx
    go_wp2
    go_ret
    exact ⟨ret_int (by simp only [pkC, H1.out, HX.out]; rfl), by repeat (with_reducible first | exact Below.refl _ _ | assumption | refine Bel.alloc ?_ _ | refine Bel.step (by assumption) ?_ | refine Below.drew ?_ | refine Bel.drewN ?_ _ | refine Below.setCell ?_ (by first | exact Nat.le_refl _ | omega | (simp; done) | (simp; omega)) _)⟩
theorem lies_c (a b c d e f : Int) (h1 : okF a b = true) (h2 : okF c d = true) (h3 : okF e f = true) (w : World) :
    Calls Try.prog 154 #[.agg #[.int .i64 a, .int .i64 b], .agg #[.int .i64 c, .int .i64 d], .agg #[.int .i64 e, .int .i64 f]] w fun r w' => r = .returned (.bool (liB a b c d e f)) ∧ Below w.heap.size w w' := by
  have H1 := Lib.hid h1
  have H2 := Lib.hid h2
  have H3 := Lib.hid h3
  clear h1 h2 h3
  go_enter Try.func154, Try.ntmps154
  go_wp2_with fail
  go_at_call 157; refine (compareFigures_c _ _ _ _ H2.out H1.out _).mono ?_; rintro e w1 ⟨rfl, hb1⟩; obtain ⟨hc1, hf1, hz1⟩ := bel hb1; (try simp only [World.size_drew, World.cell?_drew, World.frozen?_drew] at hc1 hf1 hz1); (try simp only [World.heap_drewN, World.cell?_drewN, World.frozen?_drewN] at hc1 hf1 hz1); (try have hl1 : w.heap.size < w1.heap.size := by (have hq := hb1.size; (try simp at hq); omega)); (try have hm1 : w.heap.size + 1 < w1.heap.size := by (have hq := hb1.size; (try simp at hq); omega)); (try have hn1 : w.heap.size + 1 + 1 < w1.heap.size := by (have hq := hb1.size; (try simp at hq); omega)); (try have hp1 : b < w1.heap.size := by (have hq := hb1.size; (try simp at hq); omega)); (try have ho1 : b' < w1.heap.size := by (have hq := hb1.size; (try simp at hq); omega))
  have l3 : w.heap.size + 1 + 1 < w1.heap.size := by have := hb1.size; simp at this; omega
  cases hx : decide (fc c d a b ≤ 0)
  · have HX := Lib.hid hx
    go_wp2
    go_ret
    exact ⟨ret_bool (by simp only [liB, HX.out, Bool.false_and]), by repeat (with_reducible first | exact Below.refl _ _ | assumption | refine Bel.alloc ?_ _ | refine Bel.step (by assumption) ?_ | refine Below.drew ?_ | refine Bel.drewN ?_ _ | refine Below.setCell ?_ (by first | exact Nat.le_refl _ | omega | (simp; done) | (simp; omega)) _)⟩
  · have HX := Lib.hid hx
    go_wp2_with fail
    go_at_call 157; refine (compareFigures_c _ _ _ _ H1.out H3.out _).mono ?_; rintro e w2 ⟨rfl, hb2⟩; obtain ⟨hc2, hf2, hz2⟩ := bel hb2; (try simp only [World.size_drew, World.cell?_drew, World.frozen?_drew] at hc2 hf2 hz2); (try simp only [World.heap_drewN, World.cell?_drewN, World.frozen?_drewN] at hc2 hf2 hz2); (try have hl2 : w.heap.size < w2.heap.size := by (have hq := hb2.size; (try simp at hq); omega)); (try have hm2 : w.heap.size + 1 < w2.heap.size := by (have hq := hb2.size; (try simp at hq); omega)); (try have hn2 : w.heap.size + 1 + 1 < w2.heap.size := by (have hq := hb2.size; (try simp at hq); omega)); (try have hp2 : b < w2.heap.size := by (have hq := hb2.size; (try simp at hq); omega)); (try have ho2 : b' < w2.heap.size := by (have hq := hb2.size; (try simp at hq); omega))
    go_wp2
    go_ret
    exact ⟨ret_bool (by simp only [liB, HX.out, Bool.true_and]), by repeat (with_reducible first | exact Below.refl _ _ | assumption | refine Bel.alloc ?_ _ | refine Bel.step (by assumption) ?_ | refine Below.drew ?_ | refine Bel.drewN ?_ _ | refine Below.setCell ?_ (by first | exact Nat.le_refl _ | omega | (simp; done) | (simp; omega)) _)⟩
set_option maxHeartbeats 2000000 in
theorem l27Covered_c (R : Re) (A : Option Addr) (c : Nat) (ud ut vd vt : Int) (hr : okRe R = true) (hu : okF ud ut = true) (hv : okF vd vt = true) (w : World) :
    Calls Try.prog 72 #[.agg #[.int .i64 R.ch.dg, .int .i64 R.ch.tn, .string R.ch.nm, .slice A R.ch.zs.length c, .int .i64 R.ch.wd, .int .i64 R.ch.lf, .int .i64 R.ch.rt, .int .i64 R.ad, .int .i64 R.at_, .int .i64 R.bd, .int .i64 R.bt, .int .i64 R.cd, .int .i64 R.ct, .int .i64 R.dd, .int .i64 R.dt, .int .i64 R.ey, .int .i64 R.bo], .agg #[.int .i64 ud, .int .i64 ut], .agg #[.int .i64 vd, .int .i64 vt]] w fun e w' => e = .returned (.bool (cvR R ud ut vd vt)) ∧ Below w.heap.size w w' := by
  have HV := Lib.hid (cvR_eq R ud ut vd vt)
  have HR := Lib.hid (okRe_iff hr)
  have HU := Lib.hid hu
  have HW := Lib.hid hv
  clear hr hu hv
  go_enter Try.func72, Try.ntmps72
  go_wp2_with fail
  go_at_call 156; refine (l02Compare_c _ _ _ _ HR.out.2.1 HU.out _).mono ?_; rintro e w1 ⟨rfl, hb1⟩; obtain ⟨hc1, hf1, hz1⟩ := bel hb1; (try simp only [World.size_drew, World.cell?_drew, World.frozen?_drew] at hc1 hf1 hz1); (try simp only [World.heap_drewN, World.cell?_drewN, World.frozen?_drewN] at hc1 hf1 hz1); (try have hl1 : w.heap.size < w1.heap.size := by (have hq := hb1.size; (try simp at hq); omega)); (try have hm1 : w.heap.size + 1 < w1.heap.size := by (have hq := hb1.size; (try simp at hq); omega)); (try have hn1 : w.heap.size + 1 + 1 < w1.heap.size := by (have hq := hb1.size; (try simp at hq); omega)); (try have hp1 : b < w1.heap.size := by (have hq := hb1.size; (try simp at hq); omega)); (try have ho1 : b' < w1.heap.size := by (have hq := hb1.size; (try simp at hq); omega))
  have hbel1 : Below w.heap.size w w1 := by repeat (with_reducible first | exact Below.refl _ _ | assumption | refine Bel.alloc ?_ _ | refine Bel.step (by assumption) ?_ | refine Below.drew ?_ | refine Bel.drewN ?_ _ | refine Below.setCell ?_ (by first | exact Nat.le_refl _ | omega | (simp; done) | (simp; omega)) _)
  have l3 : w.heap.size + 1 + 1 < w1.heap.size := by have := hb1.size; simp at this; omega
  have HB1 : Blk w1 w.heap.size 32 #[.int .i64 R.ch.dg, .int .i64 R.ch.tn, .string R.ch.nm, .slice A R.ch.zs.length c, .int .i64 R.ch.wd, .int .i64 R.ch.lf, .int .i64 R.ch.rt, .int .i64 R.ad, .int .i64 R.at_, .int .i64 R.bd, .int .i64 R.bt, .int .i64 R.cd, .int .i64 R.ct, .int .i64 R.dd, .int .i64 R.dt, .int .i64 R.ey, .int .i64 R.bo] := Blk.step hb1 (Blk.alloc _ (Blk.alloc _ (Blk.new _ _ _)))
  have u0 : w1.cell? ⟨w.heap.size + 1, 0, none⟩ = some (.int .i64 ud) := by simp [go_sem, *]
  have u1 : w1.cell? ⟨w.heap.size + 1, 1, none⟩ = some (.int .i64 ut) := by simp [go_sem, *]
  have v0 : w1.cell? ⟨w.heap.size + 1 + 1, 0, none⟩ = some (.int .i64 vd) := by simp [go_sem, *]
  have v1 : w1.cell? ⟨w.heap.size + 1 + 1, 1, none⟩ = some (.int .i64 vt) := by simp [go_sem, *]
  clear hb1 hc1 hf1 hz1
  have p0 : w1.cell? ⟨w.heap.size, 0, none⟩ = some (.int .i64 R.ch.dg) := by rw [HB1.cell]; rfl
  have p1 : w1.cell? ⟨w.heap.size, 1, none⟩ = some (.int .i64 R.ch.tn) := by rw [HB1.cell]; rfl
  have p2 : w1.cell? ⟨w.heap.size, 2, none⟩ = some (.string R.ch.nm) := by rw [HB1.cell]; rfl
  have p3 : w1.cell? ⟨w.heap.size, 3, none⟩ = some (.slice A R.ch.zs.length c) := by rw [HB1.cell]; rfl
  have p4 : w1.cell? ⟨w.heap.size, 4, none⟩ = some (.int .i64 R.ch.wd) := by rw [HB1.cell]; rfl
  have p5 : w1.cell? ⟨w.heap.size, 5, none⟩ = some (.int .i64 R.ch.lf) := by rw [HB1.cell]; rfl
  have p6 : w1.cell? ⟨w.heap.size, 6, none⟩ = some (.int .i64 R.ch.rt) := by rw [HB1.cell]; rfl
  have p7 : w1.cell? ⟨w.heap.size, 7, none⟩ = some (.int .i64 R.ad) := by rw [HB1.cell]; rfl
  have p8 : w1.cell? ⟨w.heap.size, 8, none⟩ = some (.int .i64 R.at_) := by rw [HB1.cell]; rfl
  have p9 : w1.cell? ⟨w.heap.size, 9, none⟩ = some (.int .i64 R.bd) := by rw [HB1.cell]; rfl
  have p10 : w1.cell? ⟨w.heap.size, 10, none⟩ = some (.int .i64 R.bt) := by rw [HB1.cell]; rfl
  have p11 : w1.cell? ⟨w.heap.size, 11, none⟩ = some (.int .i64 R.cd) := by rw [HB1.cell]; rfl
  have p12 : w1.cell? ⟨w.heap.size, 12, none⟩ = some (.int .i64 R.ct) := by rw [HB1.cell]; rfl
  have p13 : w1.cell? ⟨w.heap.size, 13, none⟩ = some (.int .i64 R.dd) := by rw [HB1.cell]; rfl
  have p14 : w1.cell? ⟨w.heap.size, 14, none⟩ = some (.int .i64 R.dt) := by rw [HB1.cell]; rfl
  have p15 : w1.cell? ⟨w.heap.size, 15, none⟩ = some (.int .i64 R.ey) := by rw [HB1.cell]; rfl
  have p16 : w1.cell? ⟨w.heap.size, 16, none⟩ = some (.int .i64 R.bo) := by rw [HB1.cell]; rfl
  cases hx : decide (fc R.ad R.at_ ud ut ≤ 0)
  · have HX := Lib.hid hx
    clear HB1
    go_wp2
    go_ret
    exact ⟨ret_bool (by simp only [HV.out, HX.out, Bool.false_and]), by repeat (with_reducible first | exact Below.refl _ _ | assumption | refine Bel.alloc ?_ _ | refine Bel.step (by assumption) ?_ | refine Below.drew ?_ | refine Bel.drewN ?_ _ | refine Below.setCell ?_ (by first | exact Nat.le_refl _ | omega | (simp; done) | (simp; omega)) _)⟩
  have H1 := Lib.hid hx
  go_wp2_with fail
  go_at_call 156; refine (l02Compare_c _ _ _ _ HU.out HR.out.2.2.1 _).mono ?_; rintro e w2 ⟨rfl, hb2⟩; obtain ⟨hc2, hf2, hz2⟩ := bel hb2; (try simp only [World.size_drew, World.cell?_drew, World.frozen?_drew] at hc2 hf2 hz2); (try simp only [World.heap_drewN, World.cell?_drewN, World.frozen?_drewN] at hc2 hf2 hz2); (try have hl2 : w.heap.size < w2.heap.size := by (have hq := hb2.size; (try simp at hq); omega)); (try have hm2 : w.heap.size + 1 < w2.heap.size := by (have hq := hb2.size; (try simp at hq); omega)); (try have hn2 : w.heap.size + 1 + 1 < w2.heap.size := by (have hq := hb2.size; (try simp at hq); omega)); (try have hp2 : b < w2.heap.size := by (have hq := hb2.size; (try simp at hq); omega)); (try have ho2 : b' < w2.heap.size := by (have hq := hb2.size; (try simp at hq); omega))
  clear hx
  have hbel2 : Below w.heap.size w w2 := by repeat (with_reducible first | exact Below.refl _ _ | assumption | refine Bel.alloc ?_ _ | refine Bel.step (by assumption) ?_ | refine Below.drew ?_ | refine Bel.drewN ?_ _ | refine Below.setCell ?_ (by first | exact Nat.le_refl _ | omega | (simp; done) | (simp; omega)) _)
  have HB2 : Blk w2 w.heap.size 32 #[.int .i64 R.ch.dg, .int .i64 R.ch.tn, .string R.ch.nm, .slice A R.ch.zs.length c, .int .i64 R.ch.wd, .int .i64 R.ch.lf, .int .i64 R.ch.rt, .int .i64 R.ad, .int .i64 R.at_, .int .i64 R.bd, .int .i64 R.bt, .int .i64 R.cd, .int .i64 R.ct, .int .i64 R.dd, .int .i64 R.dt, .int .i64 R.ey, .int .i64 R.bo] := Blk.step hb2 HB1
  have v20 : w2.cell? ⟨w.heap.size + 1 + 1, 0, none⟩ = some (.int .i64 vd) := (hc2 _ _ l3).trans v0
  have v21 : w2.cell? ⟨w.heap.size + 1 + 1, 1, none⟩ = some (.int .i64 vt) := (hc2 _ _ l3).trans v1
  have l4 := hz2 _ l3
  clear hb2 hc2 hf2 hz2 u0 u1 v0 v1 HB1 p0 p1 p2 p3 p4 p5 p6 p7 p8 p9 p10 p11 p12 p13 p14 p15 p16
  have p0 : w2.cell? ⟨w.heap.size, 0, none⟩ = some (.int .i64 R.ch.dg) := by rw [HB2.cell]; rfl
  have p1 : w2.cell? ⟨w.heap.size, 1, none⟩ = some (.int .i64 R.ch.tn) := by rw [HB2.cell]; rfl
  have p2 : w2.cell? ⟨w.heap.size, 2, none⟩ = some (.string R.ch.nm) := by rw [HB2.cell]; rfl
  have p3 : w2.cell? ⟨w.heap.size, 3, none⟩ = some (.slice A R.ch.zs.length c) := by rw [HB2.cell]; rfl
  have p4 : w2.cell? ⟨w.heap.size, 4, none⟩ = some (.int .i64 R.ch.wd) := by rw [HB2.cell]; rfl
  have p5 : w2.cell? ⟨w.heap.size, 5, none⟩ = some (.int .i64 R.ch.lf) := by rw [HB2.cell]; rfl
  have p6 : w2.cell? ⟨w.heap.size, 6, none⟩ = some (.int .i64 R.ch.rt) := by rw [HB2.cell]; rfl
  have p7 : w2.cell? ⟨w.heap.size, 7, none⟩ = some (.int .i64 R.ad) := by rw [HB2.cell]; rfl
  have p8 : w2.cell? ⟨w.heap.size, 8, none⟩ = some (.int .i64 R.at_) := by rw [HB2.cell]; rfl
  have p9 : w2.cell? ⟨w.heap.size, 9, none⟩ = some (.int .i64 R.bd) := by rw [HB2.cell]; rfl
  have p10 : w2.cell? ⟨w.heap.size, 10, none⟩ = some (.int .i64 R.bt) := by rw [HB2.cell]; rfl
  have p11 : w2.cell? ⟨w.heap.size, 11, none⟩ = some (.int .i64 R.cd) := by rw [HB2.cell]; rfl
  have p12 : w2.cell? ⟨w.heap.size, 12, none⟩ = some (.int .i64 R.ct) := by rw [HB2.cell]; rfl
  have p13 : w2.cell? ⟨w.heap.size, 13, none⟩ = some (.int .i64 R.dd) := by rw [HB2.cell]; rfl
  have p14 : w2.cell? ⟨w.heap.size, 14, none⟩ = some (.int .i64 R.dt) := by rw [HB2.cell]; rfl
  have p15 : w2.cell? ⟨w.heap.size, 15, none⟩ = some (.int .i64 R.ey) := by rw [HB2.cell]; rfl
  have p16 : w2.cell? ⟨w.heap.size, 16, none⟩ = some (.int .i64 R.bo) := by rw [HB2.cell]; rfl
  cases hx : decide (fc ud ut R.bd R.bt ≤ 0)
  · have HX := Lib.hid hx
    clear HB2
    go_wp2
    go_ret
    exact ⟨ret_bool (by simp only [HV.out, H1.out, HX.out, Bool.false_and, Bool.and_false]), by repeat (with_reducible first | exact Below.refl _ _ | assumption | refine Bel.alloc ?_ _ | refine Bel.step (by assumption) ?_ | refine Below.drew ?_ | refine Bel.drewN ?_ _ | refine Below.setCell ?_ (by first | exact Nat.le_refl _ | omega | (simp; done) | (simp; omega)) _)⟩
  have H2 := Lib.hid hx
  go_wp2_with fail
  go_at_call 156; refine (l02Compare_c _ _ _ _ HR.out.2.2.2.1 HW.out _).mono ?_; rintro e w3 ⟨rfl, hb3⟩; obtain ⟨hc3, hf3, hz3⟩ := bel hb3; (try simp only [World.size_drew, World.cell?_drew, World.frozen?_drew] at hc3 hf3 hz3); (try simp only [World.heap_drewN, World.cell?_drewN, World.frozen?_drewN] at hc3 hf3 hz3); (try have hl3 : w.heap.size < w3.heap.size := by (have hq := hb3.size; (try simp at hq); omega)); (try have hm3 : w.heap.size + 1 < w3.heap.size := by (have hq := hb3.size; (try simp at hq); omega)); (try have hn3 : w.heap.size + 1 + 1 < w3.heap.size := by (have hq := hb3.size; (try simp at hq); omega)); (try have hp3 : b < w3.heap.size := by (have hq := hb3.size; (try simp at hq); omega)); (try have ho3 : b' < w3.heap.size := by (have hq := hb3.size; (try simp at hq); omega))
  clear hx
  have hbel3 : Below w.heap.size w w3 := by repeat (with_reducible first | exact Below.refl _ _ | assumption | refine Bel.alloc ?_ _ | refine Bel.step (by assumption) ?_ | refine Below.drew ?_ | refine Bel.drewN ?_ _ | refine Below.setCell ?_ (by first | exact Nat.le_refl _ | omega | (simp; done) | (simp; omega)) _)
  have HB3 : Blk w3 w.heap.size 32 #[.int .i64 R.ch.dg, .int .i64 R.ch.tn, .string R.ch.nm, .slice A R.ch.zs.length c, .int .i64 R.ch.wd, .int .i64 R.ch.lf, .int .i64 R.ch.rt, .int .i64 R.ad, .int .i64 R.at_, .int .i64 R.bd, .int .i64 R.bt, .int .i64 R.cd, .int .i64 R.ct, .int .i64 R.dd, .int .i64 R.dt, .int .i64 R.ey, .int .i64 R.bo] := Blk.step hb3 HB2
  have v30 : w3.cell? ⟨w.heap.size + 1 + 1, 0, none⟩ = some (.int .i64 vd) := (hc3 _ _ l4).trans v20
  have v31 : w3.cell? ⟨w.heap.size + 1 + 1, 1, none⟩ = some (.int .i64 vt) := (hc3 _ _ l4).trans v21
  clear hb3 hc3 hf3 hz3 v20 v21 HB2 p0 p1 p2 p3 p4 p5 p6 p7 p8 p9 p10 p11 p12 p13 p14 p15 p16
  have p0 : w3.cell? ⟨w.heap.size, 0, none⟩ = some (.int .i64 R.ch.dg) := by rw [HB3.cell]; rfl
  have p1 : w3.cell? ⟨w.heap.size, 1, none⟩ = some (.int .i64 R.ch.tn) := by rw [HB3.cell]; rfl
  have p2 : w3.cell? ⟨w.heap.size, 2, none⟩ = some (.string R.ch.nm) := by rw [HB3.cell]; rfl
  have p3 : w3.cell? ⟨w.heap.size, 3, none⟩ = some (.slice A R.ch.zs.length c) := by rw [HB3.cell]; rfl
  have p4 : w3.cell? ⟨w.heap.size, 4, none⟩ = some (.int .i64 R.ch.wd) := by rw [HB3.cell]; rfl
  have p5 : w3.cell? ⟨w.heap.size, 5, none⟩ = some (.int .i64 R.ch.lf) := by rw [HB3.cell]; rfl
  have p6 : w3.cell? ⟨w.heap.size, 6, none⟩ = some (.int .i64 R.ch.rt) := by rw [HB3.cell]; rfl
  have p7 : w3.cell? ⟨w.heap.size, 7, none⟩ = some (.int .i64 R.ad) := by rw [HB3.cell]; rfl
  have p8 : w3.cell? ⟨w.heap.size, 8, none⟩ = some (.int .i64 R.at_) := by rw [HB3.cell]; rfl
  have p9 : w3.cell? ⟨w.heap.size, 9, none⟩ = some (.int .i64 R.bd) := by rw [HB3.cell]; rfl
  have p10 : w3.cell? ⟨w.heap.size, 10, none⟩ = some (.int .i64 R.bt) := by rw [HB3.cell]; rfl
  have p11 : w3.cell? ⟨w.heap.size, 11, none⟩ = some (.int .i64 R.cd) := by rw [HB3.cell]; rfl
  have p12 : w3.cell? ⟨w.heap.size, 12, none⟩ = some (.int .i64 R.ct) := by rw [HB3.cell]; rfl
  have p13 : w3.cell? ⟨w.heap.size, 13, none⟩ = some (.int .i64 R.dd) := by rw [HB3.cell]; rfl
  have p14 : w3.cell? ⟨w.heap.size, 14, none⟩ = some (.int .i64 R.dt) := by rw [HB3.cell]; rfl
  have p15 : w3.cell? ⟨w.heap.size, 15, none⟩ = some (.int .i64 R.ey) := by rw [HB3.cell]; rfl
  have p16 : w3.cell? ⟨w.heap.size, 16, none⟩ = some (.int .i64 R.bo) := by rw [HB3.cell]; rfl
  clear HB3
  cases hx : decide (fc R.cd R.ct vd vt ≤ 0)
  · have HX := Lib.hid hx
    go_wp2
    go_ret
    exact ⟨ret_bool (by simp only [HV.out, H1.out, H2.out, HX.out, Bool.false_and, Bool.and_false]), by repeat (with_reducible first | exact Below.refl _ _ | assumption | refine Bel.alloc ?_ _ | refine Bel.step (by assumption) ?_ | refine Below.drew ?_ | refine Bel.drewN ?_ _ | refine Below.setCell ?_ (by first | exact Nat.le_refl _ | omega | (simp; done) | (simp; omega)) _)⟩
  have H3 := Lib.hid hx
  go_wp2_with fail
  go_at_call 156; refine (l02Compare_c _ _ _ _ HW.out HR.out.2.2.2.2.1 _).mono ?_; rintro e w4 ⟨rfl, hb4⟩; obtain ⟨hc4, hf4, hz4⟩ := bel hb4; (try simp only [World.size_drew, World.cell?_drew, World.frozen?_drew] at hc4 hf4 hz4); (try simp only [World.heap_drewN, World.cell?_drewN, World.frozen?_drewN] at hc4 hf4 hz4); (try have hl4 : w.heap.size < w4.heap.size := by (have hq := hb4.size; (try simp at hq); omega)); (try have hm4 : w.heap.size + 1 < w4.heap.size := by (have hq := hb4.size; (try simp at hq); omega)); (try have hn4 : w.heap.size + 1 + 1 < w4.heap.size := by (have hq := hb4.size; (try simp at hq); omega)); (try have hp4 : b < w4.heap.size := by (have hq := hb4.size; (try simp at hq); omega)); (try have ho4 : b' < w4.heap.size := by (have hq := hb4.size; (try simp at hq); omega))
  clear hx
  go_wp2
  go_ret
  exact ⟨ret_bool (by simp only [HV.out, H1.out, H2.out, H3.out, Bool.true_and]), by repeat (with_reducible first | exact Below.refl _ _ | assumption | refine Bel.alloc ?_ _ | refine Bel.step (by assumption) ?_ | refine Below.drew ?_ | refine Bel.drewN ?_ _ | refine Below.setCell ?_ (by first | exact Nat.le_refl _ | omega | (simp; done) | (simp; omega)) _)⟩
set_option maxHeartbeats 2000000 in
theorem isCovered_c (R : Re) (A : Option Addr) (c : Nat) (ud ut vd vt : Int) (hr : okRe R = true) (hu : okF ud ut = true) (hv : okF vd vt = true) (w : World) :
    Calls Try.prog 69 #[.agg #[.int .i64 R.ch.dg, .int .i64 R.ch.tn, .string R.ch.nm, .slice A R.ch.zs.length c, .int .i64 R.ch.wd, .int .i64 R.ch.lf, .int .i64 R.ch.rt, .int .i64 R.ad, .int .i64 R.at_, .int .i64 R.bd, .int .i64 R.bt, .int .i64 R.cd, .int .i64 R.ct, .int .i64 R.dd, .int .i64 R.dt, .int .i64 R.ey, .int .i64 R.bo], .agg #[.int .i64 ud, .int .i64 ut], .agg #[.int .i64 vd, .int .i64 vt]] w fun e w' => e = .returned (.bool (cvR R ud ut vd vt)) ∧ Below w.heap.size w w' := by
  have HR := Lib.hid (okRe_iff hr)
  have HU := Lib.hid hu
  have HW := Lib.hid hv
  have HV := Lib.hid (show cvR R ud ut vd vt = (liB ud ut R.ad R.at_ R.bd R.bt && liB vd vt R.cd R.ct R.dd R.dt) from rfl)
  clear hr hu hv
  go_enter Try.func69, Try.ntmps69
  go_wp2_with fail
  go_at_call 154; refine (lies_c _ _ _ _ _ _ HU.out HR.out.2.1 HR.out.2.2.1 _).mono ?_; rintro e w1 ⟨rfl, hb1⟩; obtain ⟨hc1, hf1, hz1⟩ := bel hb1; (try simp only [World.size_drew, World.cell?_drew, World.frozen?_drew] at hc1 hf1 hz1); (try simp only [World.heap_drewN, World.cell?_drewN, World.frozen?_drewN] at hc1 hf1 hz1); (try have hl1 : w.heap.size < w1.heap.size := by (have hq := hb1.size; (try simp at hq); omega)); (try have hm1 : w.heap.size + 1 < w1.heap.size := by (have hq := hb1.size; (try simp at hq); omega)); (try have hn1 : w.heap.size + 1 + 1 < w1.heap.size := by (have hq := hb1.size; (try simp at hq); omega)); (try have hp1 : b < w1.heap.size := by (have hq := hb1.size; (try simp at hq); omega)); (try have ho1 : b' < w1.heap.size := by (have hq := hb1.size; (try simp at hq); omega))
  have hbel1 : Below w.heap.size w w1 := by repeat (with_reducible first | exact Below.refl _ _ | assumption | refine Bel.alloc ?_ _ | refine Bel.step (by assumption) ?_ | refine Below.drew ?_ | refine Bel.drewN ?_ _ | refine Below.setCell ?_ (by first | exact Nat.le_refl _ | omega | (simp; done) | (simp; omega)) _)
  have l3 : w.heap.size + 1 + 1 < w1.heap.size := by have := hb1.size; simp at this; omega
  have HB1 : Blk w1 w.heap.size 32 #[.int .i64 R.ch.dg, .int .i64 R.ch.tn, .string R.ch.nm, .slice A R.ch.zs.length c, .int .i64 R.ch.wd, .int .i64 R.ch.lf, .int .i64 R.ch.rt, .int .i64 R.ad, .int .i64 R.at_, .int .i64 R.bd, .int .i64 R.bt, .int .i64 R.cd, .int .i64 R.ct, .int .i64 R.dd, .int .i64 R.dt, .int .i64 R.ey, .int .i64 R.bo] := Blk.step hb1 (Blk.alloc _ (Blk.alloc _ (Blk.new _ _ _)))
  have v0 : w1.cell? ⟨w.heap.size + 1 + 1, 0, none⟩ = some (.int .i64 vd) := by simp [go_sem, *]
  have v1 : w1.cell? ⟨w.heap.size + 1 + 1, 1, none⟩ = some (.int .i64 vt) := by simp [go_sem, *]
  clear hb1 hc1 hf1 hz1
  have p0 : w1.cell? ⟨w.heap.size, 0, none⟩ = some (.int .i64 R.ch.dg) := by rw [HB1.cell]; rfl
  have p1 : w1.cell? ⟨w.heap.size, 1, none⟩ = some (.int .i64 R.ch.tn) := by rw [HB1.cell]; rfl
  have p2 : w1.cell? ⟨w.heap.size, 2, none⟩ = some (.string R.ch.nm) := by rw [HB1.cell]; rfl
  have p3 : w1.cell? ⟨w.heap.size, 3, none⟩ = some (.slice A R.ch.zs.length c) := by rw [HB1.cell]; rfl
  have p4 : w1.cell? ⟨w.heap.size, 4, none⟩ = some (.int .i64 R.ch.wd) := by rw [HB1.cell]; rfl
  have p5 : w1.cell? ⟨w.heap.size, 5, none⟩ = some (.int .i64 R.ch.lf) := by rw [HB1.cell]; rfl
  have p6 : w1.cell? ⟨w.heap.size, 6, none⟩ = some (.int .i64 R.ch.rt) := by rw [HB1.cell]; rfl
  have p7 : w1.cell? ⟨w.heap.size, 7, none⟩ = some (.int .i64 R.ad) := by rw [HB1.cell]; rfl
  have p8 : w1.cell? ⟨w.heap.size, 8, none⟩ = some (.int .i64 R.at_) := by rw [HB1.cell]; rfl
  have p9 : w1.cell? ⟨w.heap.size, 9, none⟩ = some (.int .i64 R.bd) := by rw [HB1.cell]; rfl
  have p10 : w1.cell? ⟨w.heap.size, 10, none⟩ = some (.int .i64 R.bt) := by rw [HB1.cell]; rfl
  have p11 : w1.cell? ⟨w.heap.size, 11, none⟩ = some (.int .i64 R.cd) := by rw [HB1.cell]; rfl
  have p12 : w1.cell? ⟨w.heap.size, 12, none⟩ = some (.int .i64 R.ct) := by rw [HB1.cell]; rfl
  have p13 : w1.cell? ⟨w.heap.size, 13, none⟩ = some (.int .i64 R.dd) := by rw [HB1.cell]; rfl
  have p14 : w1.cell? ⟨w.heap.size, 14, none⟩ = some (.int .i64 R.dt) := by rw [HB1.cell]; rfl
  have p15 : w1.cell? ⟨w.heap.size, 15, none⟩ = some (.int .i64 R.ey) := by rw [HB1.cell]; rfl
  have p16 : w1.cell? ⟨w.heap.size, 16, none⟩ = some (.int .i64 R.bo) := by rw [HB1.cell]; rfl
  clear HB1
  cases hx : liB ud ut R.ad R.at_ R.bd R.bt
  · have HX := Lib.hid hx
    clear hx
    go_wp2
    go_ret
    exact ⟨ret_bool (by simp only [HV.out, HX.out, Bool.false_and]), by repeat (with_reducible first | exact Below.refl _ _ | assumption | refine Bel.alloc ?_ _ | refine Bel.step (by assumption) ?_ | refine Below.drew ?_ | refine Bel.drewN ?_ _ | refine Below.setCell ?_ (by first | exact Nat.le_refl _ | omega | (simp; done) | (simp; omega)) _)⟩
  have H1 := Lib.hid hx
  clear hx
  go_wp2_with fail
  go_at_call 154; refine (lies_c _ _ _ _ _ _ HW.out HR.out.2.2.2.1 HR.out.2.2.2.2.1 _).mono ?_; rintro e w2 ⟨rfl, hb2⟩; obtain ⟨hc2, hf2, hz2⟩ := bel hb2; (try simp only [World.size_drew, World.cell?_drew, World.frozen?_drew] at hc2 hf2 hz2); (try simp only [World.heap_drewN, World.cell?_drewN, World.frozen?_drewN] at hc2 hf2 hz2); (try have hl2 : w.heap.size < w2.heap.size := by (have hq := hb2.size; (try simp at hq); omega)); (try have hm2 : w.heap.size + 1 < w2.heap.size := by (have hq := hb2.size; (try simp at hq); omega)); (try have hn2 : w.heap.size + 1 + 1 < w2.heap.size := by (have hq := hb2.size; (try simp at hq); omega)); (try have hp2 : b < w2.heap.size := by (have hq := hb2.size; (try simp at hq); omega)); (try have ho2 : b' < w2.heap.size := by (have hq := hb2.size; (try simp at hq); omega))
  go_wp2
  go_ret
  exact ⟨ret_bool (by simp only [HV.out, H1.out, Bool.true_and]), by repeat (with_reducible first | exact Below.refl _ _ | assumption | refine Bel.alloc ?_ _ | refine Bel.step (by assumption) ?_ | refine Below.drew ?_ | refine Bel.drewN ?_ _ | refine Below.setCell ?_ (by first | exact Nat.le_refl _ | omega | (simp; done) | (simp; omega)) _)⟩
set_option maxHeartbeats 4000000 in
theorem IsKept_S (R : Re) (A : Option Addr) (c : Nat) (hn : R.ch.zs.length ≤ 1048576) (hm : R.ch.nm.size ≤ 1048576) (w : World) (hA : Ints w A R.ch.zs) :
    Calls Try.prog 13 #[.agg #[.int .i64 R.ch.dg, .int .i64 R.ch.tn, .string R.ch.nm, .slice A R.ch.zs.length c, .int .i64 R.ch.wd, .int .i64 R.ch.lf, .int .i64 R.ch.rt, .int .i64 R.ad, .int .i64 R.at_, .int .i64 R.bd, .int .i64 R.bt, .int .i64 R.cd, .int .i64 R.ct, .int .i64 R.dd, .int .i64 R.dt, .int .i64 R.ey, .int .i64 R.bo]] w fun e w' => e = .returned (.tuple #[.bool (ikB R), .int .i64 (ikC R)]) ∧ Below w.heap.size w w' := by
  have HI := Lib.hid hA
  clear hA
  go_enter Try.func13, Try.ntmps13
  go_wp2_with fail
  go_at_call 76; refine (IsRelease_S _ _ _ hn hm _ (by repeat (with_reducible first | exact HI.out | assumption | refine Ints.drew ?_ | refine Ints.drewN _ ?_ | refine Ints.alloc _ ?_ | refine Ints.step (by assumption) ?_))).mono ?_; rintro e w1 ⟨rfl, hb1⟩; obtain ⟨hc1, hf1, hz1⟩ := bel hb1; (try simp only [World.size_drew, World.cell?_drew, World.frozen?_drew] at hc1 hf1 hz1); (try simp only [World.heap_drewN, World.cell?_drewN, World.frozen?_drewN] at hc1 hf1 hz1); (try have hl1 : w.heap.size < w1.heap.size := by (have hq := hb1.size; (try simp at hq); omega)); (try have hm1 : w.heap.size + 1 < w1.heap.size := by (have hq := hb1.size; (try simp at hq); omega)); (try have hn1 : w.heap.size + 1 + 1 < w1.heap.size := by (have hq := hb1.size; (try simp at hq); omega)); (try have hp1 : b < w1.heap.size := by (have hq := hb1.size; (try simp at hq); omega)); (try have ho1 : b' < w1.heap.size := by (have hq := hb1.size; (try simp at hq); omega))
  have hbel1 : Below w.heap.size w w1 := by repeat (with_reducible first | exact Below.refl _ _ | assumption | refine Bel.alloc ?_ _ | refine Bel.step (by assumption) ?_ | refine Below.drew ?_ | refine Bel.drewN ?_ _ | refine Below.setCell ?_ (by first | exact Nat.le_refl _ | omega | (simp; done) | (simp; omega)) _)
  have HB1 : Blk w1 w.heap.size 32 #[.int .i64 R.ch.dg, .int .i64 R.ch.tn, .string R.ch.nm, .slice A R.ch.zs.length c, .int .i64 R.ch.wd, .int .i64 R.ch.lf, .int .i64 R.ch.rt, .int .i64 R.ad, .int .i64 R.at_, .int .i64 R.bd, .int .i64 R.bt, .int .i64 R.cd, .int .i64 R.ct, .int .i64 R.dd, .int .i64 R.dt, .int .i64 R.ey, .int .i64 R.bo] := Blk.step hb1 (Blk.new _ _ _)
  clear hb1 hc1 hf1 hz1
  have p0 : w1.cell? ⟨w.heap.size, 0, none⟩ = some (.int .i64 R.ch.dg) := by rw [HB1.cell]; rfl
  have p1 : w1.cell? ⟨w.heap.size, 1, none⟩ = some (.int .i64 R.ch.tn) := by rw [HB1.cell]; rfl
  have p2 : w1.cell? ⟨w.heap.size, 2, none⟩ = some (.string R.ch.nm) := by rw [HB1.cell]; rfl
  have p3 : w1.cell? ⟨w.heap.size, 3, none⟩ = some (.slice A R.ch.zs.length c) := by rw [HB1.cell]; rfl
  have p4 : w1.cell? ⟨w.heap.size, 4, none⟩ = some (.int .i64 R.ch.wd) := by rw [HB1.cell]; rfl
  have p5 : w1.cell? ⟨w.heap.size, 5, none⟩ = some (.int .i64 R.ch.lf) := by rw [HB1.cell]; rfl
  have p6 : w1.cell? ⟨w.heap.size, 6, none⟩ = some (.int .i64 R.ch.rt) := by rw [HB1.cell]; rfl
  have p7 : w1.cell? ⟨w.heap.size, 7, none⟩ = some (.int .i64 R.ad) := by rw [HB1.cell]; rfl
  have p8 : w1.cell? ⟨w.heap.size, 8, none⟩ = some (.int .i64 R.at_) := by rw [HB1.cell]; rfl
  have p9 : w1.cell? ⟨w.heap.size, 9, none⟩ = some (.int .i64 R.bd) := by rw [HB1.cell]; rfl
  have p10 : w1.cell? ⟨w.heap.size, 10, none⟩ = some (.int .i64 R.bt) := by rw [HB1.cell]; rfl
  have p11 : w1.cell? ⟨w.heap.size, 11, none⟩ = some (.int .i64 R.cd) := by rw [HB1.cell]; rfl
  have p12 : w1.cell? ⟨w.heap.size, 12, none⟩ = some (.int .i64 R.ct) := by rw [HB1.cell]; rfl
  have p13 : w1.cell? ⟨w.heap.size, 13, none⟩ = some (.int .i64 R.dd) := by rw [HB1.cell]; rfl
  have p14 : w1.cell? ⟨w.heap.size, 14, none⟩ = some (.int .i64 R.dt) := by rw [HB1.cell]; rfl
  have p15 : w1.cell? ⟨w.heap.size, 15, none⟩ = some (.int .i64 R.ey) := by rw [HB1.cell]; rfl
  have p16 : w1.cell? ⟨w.heap.size, 16, none⟩ = some (.int .i64 R.bo) := by rw [HB1.cell]; rfl
  clear HB1
  cases hx : okRe R
  · have HX := Lib.hid hx
    clear hx
    go_wp2
    go_ret2
    exact ⟨by simp only [ikB, ikC, HX.out]; rfl, by repeat (with_reducible first | exact Below.refl _ _ | assumption | refine Bel.alloc ?_ _ | refine Bel.step (by assumption) ?_ | refine Below.drew ?_ | refine Bel.drewN ?_ _ | refine Below.setCell ?_ (by first | exact Nat.le_refl _ | omega | (simp; done) | (simp; omega)) _)⟩
  obtain ⟨k1, _, _, _, _, k2, _⟩ := okRe_iff hx
  obtain ⟨e1, e2⟩ := inB_iff.1 k2
  have HX := Lib.hid hx
  have HK := Lib.hid k1
  clear hx k1 k2
  go_wp2
  go_region_held3 (fun w' => w'.cell? ⟨w.heap.size, 0, none⟩ = some (.int .i64 R.ch.dg) ∧ w'.cell? ⟨w.heap.size, 1, none⟩ = some (.int .i64 R.ch.tn) ∧ w'.cell? ⟨w.heap.size, 2, none⟩ = some (.string R.ch.nm) ∧ w'.cell? ⟨w.heap.size, 3, none⟩ = some (.slice A R.ch.zs.length c) ∧ w'.cell? ⟨w.heap.size, 4, none⟩ = some (.int .i64 R.ch.wd) ∧ w'.cell? ⟨w.heap.size, 5, none⟩ = some (.int .i64 R.ch.lf) ∧ w'.cell? ⟨w.heap.size, 6, none⟩ = some (.int .i64 R.ch.rt) ∧ w'.cell? ⟨w.heap.size, 15, none⟩ = some (.int .i64 R.ey) ∧ w'.cell? ⟨w.heap.size, 16, none⟩ = some (.int .i64 R.bo)) (simp [go_sem, *])
      (first | (go_at_call 77; refine (l27Safe_c _ _ _ _ HK.out (by omega) (by omega) _ (by repeat (with_reducible first | exact HI.out | assumption | refine Ints.drew ?_ | refine Ints.drewN _ ?_ | refine Ints.alloc _ ?_ | refine Ints.step (by assumption) ?_))).mono ?_; rintro e w1 ⟨rfl, hb1⟩; obtain ⟨hc1, hf1, hz1⟩ := bel hb1; (try simp only [World.size_drew, World.cell?_drew, World.frozen?_drew] at hc1 hf1 hz1); (try simp only [World.heap_drewN, World.cell?_drewN, World.frozen?_drewN] at hc1 hf1 hz1); (try have hl1 : w.heap.size < w1.heap.size := by (have hq := hb1.size; (try simp at hq); omega)); (try have hm1 : w.heap.size + 1 < w1.heap.size := by (have hq := hb1.size; (try simp at hq); omega)); (try have hn1 : w.heap.size + 1 + 1 < w1.heap.size := by (have hq := hb1.size; (try simp at hq); omega)); (try have hp1 : b < w1.heap.size := by (have hq := hb1.size; (try simp at hq); omega)); (try have ho1 : b' < w1.heap.size := by (have hq := hb1.size; (try simp at hq); omega))))
  all_goals
    go_wp2
    go_ret2
    exact ⟨by simp only [ikB, ikC, HX.out]; rfl, by repeat (with_reducible first | exact Below.refl _ _ | assumption | refine Bel.alloc ?_ _ | refine Bel.step (by assumption) ?_ | refine Below.drew ?_ | refine Bel.drewN ?_ _ | refine Below.setCell ?_ (by first | exact Nat.le_refl _ | omega | (simp; done) | (simp; omega)) _)⟩
set_option maxHeartbeats 4000000 in
theorem IsKept_I (R : Re) (A : Option Addr) (c : Nat) (hn : R.ch.zs.length ≤ 1048576) (hm : R.ch.nm.size ≤ 1048576) (w : World) (hA : Ints w A R.ch.zs) :
    Calls Try.prog 12 #[.agg #[.int .i64 R.ch.dg, .int .i64 R.ch.tn, .string R.ch.nm, .slice A R.ch.zs.length c, .int .i64 R.ch.wd, .int .i64 R.ch.lf, .int .i64 R.ch.rt, .int .i64 R.ad, .int .i64 R.at_, .int .i64 R.bd, .int .i64 R.bt, .int .i64 R.cd, .int .i64 R.ct, .int .i64 R.dd, .int .i64 R.dt, .int .i64 R.ey, .int .i64 R.bo]] w fun e w' => e = .returned (.tuple #[.bool (ikB R), .int .i64 (ikC R)]) ∧ Below w.heap.size w w' := by
  have HI := Lib.hid hA
  clear hA
  go_enter Try.func12, Try.ntmps12
  go_wp2_with fail
  go_at_call 74; refine (IsRelease_I _ _ _ hn hm _ (by repeat (with_reducible first | exact HI.out | assumption | refine Ints.drew ?_ | refine Ints.drewN _ ?_ | refine Ints.alloc _ ?_ | refine Ints.step (by assumption) ?_))).mono ?_; rintro e w1 ⟨rfl, hb1⟩; obtain ⟨hc1, hf1, hz1⟩ := bel hb1; (try simp only [World.size_drew, World.cell?_drew, World.frozen?_drew] at hc1 hf1 hz1); (try simp only [World.heap_drewN, World.cell?_drewN, World.frozen?_drewN] at hc1 hf1 hz1); (try have hl1 : w.heap.size < w1.heap.size := by (have hq := hb1.size; (try simp at hq); omega)); (try have hm1 : w.heap.size + 1 < w1.heap.size := by (have hq := hb1.size; (try simp at hq); omega)); (try have hn1 : w.heap.size + 1 + 1 < w1.heap.size := by (have hq := hb1.size; (try simp at hq); omega)); (try have hp1 : b < w1.heap.size := by (have hq := hb1.size; (try simp at hq); omega)); (try have ho1 : b' < w1.heap.size := by (have hq := hb1.size; (try simp at hq); omega))
  have hbel1 : Below w.heap.size w w1 := by repeat (with_reducible first | exact Below.refl _ _ | assumption | refine Bel.alloc ?_ _ | refine Bel.step (by assumption) ?_ | refine Below.drew ?_ | refine Bel.drewN ?_ _ | refine Below.setCell ?_ (by first | exact Nat.le_refl _ | omega | (simp; done) | (simp; omega)) _)
  have HB1 : Blk w1 w.heap.size 32 #[.int .i64 R.ch.dg, .int .i64 R.ch.tn, .string R.ch.nm, .slice A R.ch.zs.length c, .int .i64 R.ch.wd, .int .i64 R.ch.lf, .int .i64 R.ch.rt, .int .i64 R.ad, .int .i64 R.at_, .int .i64 R.bd, .int .i64 R.bt, .int .i64 R.cd, .int .i64 R.ct, .int .i64 R.dd, .int .i64 R.dt, .int .i64 R.ey, .int .i64 R.bo] := Blk.step hb1 (Blk.new _ _ _)
  clear hb1 hc1 hf1 hz1
  have p0 : w1.cell? ⟨w.heap.size, 0, none⟩ = some (.int .i64 R.ch.dg) := by rw [HB1.cell]; rfl
  have p1 : w1.cell? ⟨w.heap.size, 1, none⟩ = some (.int .i64 R.ch.tn) := by rw [HB1.cell]; rfl
  have p2 : w1.cell? ⟨w.heap.size, 2, none⟩ = some (.string R.ch.nm) := by rw [HB1.cell]; rfl
  have p3 : w1.cell? ⟨w.heap.size, 3, none⟩ = some (.slice A R.ch.zs.length c) := by rw [HB1.cell]; rfl
  have p4 : w1.cell? ⟨w.heap.size, 4, none⟩ = some (.int .i64 R.ch.wd) := by rw [HB1.cell]; rfl
  have p5 : w1.cell? ⟨w.heap.size, 5, none⟩ = some (.int .i64 R.ch.lf) := by rw [HB1.cell]; rfl
  have p6 : w1.cell? ⟨w.heap.size, 6, none⟩ = some (.int .i64 R.ch.rt) := by rw [HB1.cell]; rfl
  have p7 : w1.cell? ⟨w.heap.size, 7, none⟩ = some (.int .i64 R.ad) := by rw [HB1.cell]; rfl
  have p8 : w1.cell? ⟨w.heap.size, 8, none⟩ = some (.int .i64 R.at_) := by rw [HB1.cell]; rfl
  have p9 : w1.cell? ⟨w.heap.size, 9, none⟩ = some (.int .i64 R.bd) := by rw [HB1.cell]; rfl
  have p10 : w1.cell? ⟨w.heap.size, 10, none⟩ = some (.int .i64 R.bt) := by rw [HB1.cell]; rfl
  have p11 : w1.cell? ⟨w.heap.size, 11, none⟩ = some (.int .i64 R.cd) := by rw [HB1.cell]; rfl
  have p12 : w1.cell? ⟨w.heap.size, 12, none⟩ = some (.int .i64 R.ct) := by rw [HB1.cell]; rfl
  have p13 : w1.cell? ⟨w.heap.size, 13, none⟩ = some (.int .i64 R.dd) := by rw [HB1.cell]; rfl
  have p14 : w1.cell? ⟨w.heap.size, 14, none⟩ = some (.int .i64 R.dt) := by rw [HB1.cell]; rfl
  have p15 : w1.cell? ⟨w.heap.size, 15, none⟩ = some (.int .i64 R.ey) := by rw [HB1.cell]; rfl
  have p16 : w1.cell? ⟨w.heap.size, 16, none⟩ = some (.int .i64 R.bo) := by rw [HB1.cell]; rfl
  clear HB1
  cases hx : okRe R
  · have HX := Lib.hid hx
    clear hx
    go_wp2
    go_ret2
    exact ⟨by simp only [ikB, ikC, HX.out]; rfl, by repeat (with_reducible first | exact Below.refl _ _ | assumption | refine Bel.alloc ?_ _ | refine Bel.step (by assumption) ?_ | refine Below.drew ?_ | refine Bel.drewN ?_ _ | refine Below.setCell ?_ (by first | exact Nat.le_refl _ | omega | (simp; done) | (simp; omega)) _)⟩
  obtain ⟨k1, _, _, _, _, k2, _⟩ := okRe_iff hx
  obtain ⟨e1, e2⟩ := inB_iff.1 k2
  have HX := Lib.hid hx
  have HK := Lib.hid k1
  clear hx k1 k2
  go_wp2
  go_region_held3 (fun w' => w'.cell? ⟨w.heap.size, 0, none⟩ = some (.int .i64 R.ch.dg) ∧ w'.cell? ⟨w.heap.size, 1, none⟩ = some (.int .i64 R.ch.tn) ∧ w'.cell? ⟨w.heap.size, 2, none⟩ = some (.string R.ch.nm) ∧ w'.cell? ⟨w.heap.size, 3, none⟩ = some (.slice A R.ch.zs.length c) ∧ w'.cell? ⟨w.heap.size, 4, none⟩ = some (.int .i64 R.ch.wd) ∧ w'.cell? ⟨w.heap.size, 5, none⟩ = some (.int .i64 R.ch.lf) ∧ w'.cell? ⟨w.heap.size, 6, none⟩ = some (.int .i64 R.ch.rt) ∧ w'.cell? ⟨w.heap.size, 15, none⟩ = some (.int .i64 R.ey) ∧ w'.cell? ⟨w.heap.size, 16, none⟩ = some (.int .i64 R.bo)) (simp [go_sem, *])
      (first | (go_at_call 75; refine (safeBound_c _ _ _ _ HK.out (by omega) (by omega) _ (by repeat (with_reducible first | exact HI.out | assumption | refine Ints.drew ?_ | refine Ints.drewN _ ?_ | refine Ints.alloc _ ?_ | refine Ints.step (by assumption) ?_))).mono ?_; rintro e w1 ⟨rfl, hb1⟩; obtain ⟨hc1, hf1, hz1⟩ := bel hb1; (try simp only [World.size_drew, World.cell?_drew, World.frozen?_drew] at hc1 hf1 hz1); (try simp only [World.heap_drewN, World.cell?_drewN, World.frozen?_drewN] at hc1 hf1 hz1); (try have hl1 : w.heap.size < w1.heap.size := by (have hq := hb1.size; (try simp at hq); omega)); (try have hm1 : w.heap.size + 1 < w1.heap.size := by (have hq := hb1.size; (try simp at hq); omega)); (try have hn1 : w.heap.size + 1 + 1 < w1.heap.size := by (have hq := hb1.size; (try simp at hq); omega)); (try have hp1 : b < w1.heap.size := by (have hq := hb1.size; (try simp at hq); omega)); (try have ho1 : b' < w1.heap.size := by (have hq := hb1.size; (try simp at hq); omega))))
  all_goals
    go_wp2
    go_ret2
    exact ⟨by simp only [ikB, ikC, HX.out]; rfl, by repeat (with_reducible first | exact Below.refl _ _ | assumption | refine Bel.alloc ?_ _ | refine Bel.step (by assumption) ?_ | refine Below.drew ?_ | refine Bel.drewN ?_ _ | refine Below.setCell ?_ (by first | exact Nat.le_refl _ | omega | (simp; done) | (simp; omega)) _)⟩
end Go.Proofs.Ytpmcgicopogbhaa
