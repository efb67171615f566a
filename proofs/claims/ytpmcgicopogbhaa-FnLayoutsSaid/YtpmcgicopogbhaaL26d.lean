/- Chapter 26: errors of layouts. Conditions: as stated at each contract. -/
import Derived.Test.YtpmcgicopogbhaaProg
import Derived.Test.YtpmcgicopogbhaaBase
import Derived.Test.YtpmcgicopogbhaaRw
import Derived.Test.YtpmcgicopogbhaaL01
import Derived.Test.YtpmcgicopogbhaaCp
import Derived.Test.YtpmcgicopogbhaaL18
import Derived.Test.YtpmcgicopogbhaaL23
import Derived.Test.YtpmcgicopogbhaaL03
import Derived.Test.YtpmcgicopogbhaaL04
import Derived.Test.YtpmcgicopogbhaaL23d
import Derived.Test.YtpmcgicopogbhaaL23e
import Derived.Test.YtpmcgicopogbhaaL23f
import Derived.Test.YtpmcgicopogbhaaL24
import Derived.Test.YtpmcgicopogbhaaL24b
import Derived.Test.YtpmcgicopogbhaaL24c
import Derived.Test.YtpmcgicopogbhaaL24d
import Derived.Test.YtpmcgicopogbhaaL24f
import Derived.Test.YtpmcgicopogbhaaL24g
import Derived.Test.YtpmcgicopogbhaaL24r
import Derived.Test.YtpmcgicopogbhaaM24
import Derived.Test.YtpmcgicopogbhaaM24r
import Derived.Test.YtpmcgicopogbhaaL26a
import Derived.Test.YtpmcgicopogbhaaL26b
import Derived.Test.YtpmcgicopogbhaaL26c
import Derived.WalkKit
import Derived.WalkSpells
import Derived.WalkLawsBesides
import Derived.Lib.Hide
import Derived.Deep.QuietTactic
import Derived.BigQuiet
import Derived.Deep.Draws
import Derived.Deep.RegionHeld3
namespace Go.Proofs.Ytpmcgicopogbhaa
open Go.RowKit
set_option linter.unusedVariables false
def leC (C : Ch) (us vs : List (Int × Int)) (e : Int) : Int := if lyC C us vs e = 0 then wC C us vs else lyC C us vs e
def leV (C : Ch) (us vs : List (Int × Int)) (e : Int) : Int × Int × Int := if lyC C us vs e = 0 then wV C us vs e else (0, 0, 0)
theorem le_0 {C : Ch} {us vs : List (Int × Int)} {e : Int} (h : lyC C us vs e = 0) : leC C us vs e = wC C us vs ∧ leV C us vs e = wV C us vs e := by simp [leC, leV, h]
theorem le_no {C : Ch} {us vs : List (Int × Int)} {e : Int} (h : lyC C us vs e ≠ 0) : leC C us vs e = lyC C us vs e ∧ leV C us vs e = (0, 0, 0) := by simp [leC, leV, h]
set_option maxHeartbeats 2000000 in
theorem LayoutError_S (C : Ch) (A : Option Addr) (c : Nat) (D : Option Addr) (d : Nat) (us : List (Int × Int)) (E : Option Addr) (f : Nat) (vs : List (Int × Int)) (e : Int) (hn : C.zs.length ≤ 1048576) (hm : C.nm.size ≤ 1048576) (hu : us.length ≤ 1048576) (hv : vs.length ≤ 1048576) (w : World) (hA : Ints w A C.zs) (hD : Prs w D us) (hE : Prs w E vs) :
    Calls Try.prog 61 #[.agg #[.int .i64 C.dg, .int .i64 C.tn, .string C.nm, .slice A C.zs.length c, .int .i64 C.wd, .int .i64 C.lf, .int .i64 C.rt], .slice D us.length d, .slice E vs.length f, .int .i64 e] w fun r w' => r = .returned (.tuple #[.int .i64 (leV C us vs e).1, .int .i64 (leC C us vs e)]) ∧ Below w.heap.size w w' := by
  have HI := Lib.hid hA
  have HD := Lib.hid hD
  have HE := Lib.hid hE
  clear hA hD hE
  go_enter Try.func61, Try.ntmps61
  go_wp2_with fail
  go_at_call 148; refine (l26Code_c _ _ _ _ _ us _ _ vs e hn hm hu hv _ (by repeat (with_reducible first | exact HI.out | assumption | refine Ints.drew ?_ | refine Ints.drewN _ ?_ | refine Ints.alloc _ ?_ | refine Ints.step (by assumption) ?_)) (by repeat (with_reducible first | exact HD.out | assumption | refine Prs.drew ?_ | refine Prs.drewN _ ?_ | refine Prs.alloc _ ?_ | refine Prs.step (by assumption) ?_)) (by repeat (with_reducible first | exact HE.out | assumption | refine Prs.drew ?_ | refine Prs.drewN _ ?_ | refine Prs.alloc _ ?_ | refine Prs.step (by assumption) ?_))).mono ?_; rintro r w1 ⟨rfl, hb1⟩
  have HC1 : Blk w1 w.heap.size 30 #[.int .i64 C.dg, .int .i64 C.tn, .string C.nm, .slice A C.zs.length c, .int .i64 C.wd, .int .i64 C.lf, .int .i64 C.rt] := Blk.step hb1 (Blk.new _ _ _)
  have hbel1 : Below w.heap.size w w1 := by repeat (with_reducible first | exact Below.refl _ _ | assumption | refine Bel.alloc ?_ _ | refine Bel.step (by assumption) ?_ | refine Below.drew ?_ | refine Bel.drewN ?_ _ | refine Below.setCell ?_ (by first | exact Nat.le_refl _ | omega | (simp; done) | (simp; omega)) _)
  clear hb1
  by_cases hk : lyC C us vs e = 0
  rotate_left
  · have HK := Lib.hid (le_no hk)
    have b1 : (lyC C us vs e != 0) = true := by simpa using hk
    clear hk
    go_wp2
    go_ret2
    exact ⟨by rw [HK.out.1, HK.out.2]; rfl, by repeat (with_reducible first | exact Below.refl _ _ | assumption | refine Bel.alloc ?_ _ | refine Bel.step (by assumption) ?_ | refine Below.drew ?_ | refine Bel.drewN ?_ _ | refine Below.setCell ?_ (by first | exact Nat.le_refl _ | omega | (simp; done) | (simp; omega)) _)⟩
  have HK := Lib.hid (le_0 hk)
  have HY := Lib.hid (lyC_0 hk)
  rw [hk]
  clear hk
  have p0 : w1.cell? ⟨w.heap.size, 0, none⟩ = some (.int .i64 C.dg) := by rw [HC1.cell]; rfl
  have p1 : w1.cell? ⟨w.heap.size, 1, none⟩ = some (.int .i64 C.tn) := by rw [HC1.cell]; rfl
  have p2 : w1.cell? ⟨w.heap.size, 2, none⟩ = some (.string C.nm) := by rw [HC1.cell]; rfl
  have p3 : w1.cell? ⟨w.heap.size, 3, none⟩ = some (.slice A C.zs.length c) := by rw [HC1.cell]; rfl
  have p4 : w1.cell? ⟨w.heap.size, 4, none⟩ = some (.int .i64 C.wd) := by rw [HC1.cell]; rfl
  have p5 : w1.cell? ⟨w.heap.size, 5, none⟩ = some (.int .i64 C.lf) := by rw [HC1.cell]; rfl
  have p6 : w1.cell? ⟨w.heap.size, 6, none⟩ = some (.int .i64 C.rt) := by rw [HC1.cell]; rfl
  clear HC1
  go_wp2_with fail
  go_at_call 149; refine (l26Worst_c _ _ _ _ _ us _ _ vs e hn hm HY.out.1 HY.out.2.1 HY.out.2.2.1 HY.out.2.2.2.1.2 HY.out.2.2.2.2.1.2 HY.out.2.2.2.2.2.1 HY.out.2.2.2.2.2.2 _ (by repeat (with_reducible first | exact HI.out | assumption | refine Ints.drew ?_ | refine Ints.drewN _ ?_ | refine Ints.alloc _ ?_ | refine Ints.step (by assumption) ?_)) (by repeat (with_reducible first | exact HD.out | assumption | refine Prs.drew ?_ | refine Prs.drewN _ ?_ | refine Prs.alloc _ ?_ | refine Prs.step (by assumption) ?_)) (by repeat (with_reducible first | exact HE.out | assumption | refine Prs.drew ?_ | refine Prs.drewN _ ?_ | refine Prs.alloc _ ?_ | refine Prs.step (by assumption) ?_))).mono ?_; rintro r w2 ⟨rfl, hb2⟩
  go_wp2
  go_ret2
  exact ⟨by rw [HK.out.1, HK.out.2]; rfl, by repeat (with_reducible first | exact Below.refl _ _ | assumption | refine Bel.alloc ?_ _ | refine Bel.step (by assumption) ?_ | refine Below.drew ?_ | refine Bel.drewN ?_ _ | refine Below.setCell ?_ (by first | exact Nat.le_refl _ | omega | (simp; done) | (simp; omega)) _)⟩
set_option maxHeartbeats 2000000 in
theorem LayoutError_I (C : Ch) (A : Option Addr) (c : Nat) (D : Option Addr) (d : Nat) (us : List (Int × Int)) (E : Option Addr) (f : Nat) (vs : List (Int × Int)) (e : Int) (hn : C.zs.length ≤ 1048576) (hm : C.nm.size ≤ 1048576) (hu : us.length ≤ 1048576) (hv : vs.length ≤ 1048576) (w : World) (hA : Ints w A C.zs) (hD : Prs w D us) (hE : Prs w E vs) :
    Calls Try.prog 60 #[.agg #[.int .i64 C.dg, .int .i64 C.tn, .string C.nm, .slice A C.zs.length c, .int .i64 C.wd, .int .i64 C.lf, .int .i64 C.rt], .slice D us.length d, .slice E vs.length f, .int .i64 e] w fun r w' => r = .returned (.tuple #[.int .i64 (leV C us vs e).1, .int .i64 (leC C us vs e)]) ∧ Below w.heap.size w w' := by
  have HI := Lib.hid hA
  have HD := Lib.hid hD
  have HE := Lib.hid hE
  clear hA hD hE
  go_enter Try.func60, Try.ntmps60
  go_wp2_with fail
  go_at_call 146; refine (checkSamples_c _ _ _ _ _ us _ _ vs e hn hm hu hv _ (by repeat (with_reducible first | exact HI.out | assumption | refine Ints.drew ?_ | refine Ints.drewN _ ?_ | refine Ints.alloc _ ?_ | refine Ints.step (by assumption) ?_)) (by repeat (with_reducible first | exact HD.out | assumption | refine Prs.drew ?_ | refine Prs.drewN _ ?_ | refine Prs.alloc _ ?_ | refine Prs.step (by assumption) ?_)) (by repeat (with_reducible first | exact HE.out | assumption | refine Prs.drew ?_ | refine Prs.drewN _ ?_ | refine Prs.alloc _ ?_ | refine Prs.step (by assumption) ?_))).mono ?_; rintro r w1 ⟨rfl, hb1⟩
  have HC1 : Blk w1 w.heap.size 30 #[.int .i64 C.dg, .int .i64 C.tn, .string C.nm, .slice A C.zs.length c, .int .i64 C.wd, .int .i64 C.lf, .int .i64 C.rt] := Blk.step hb1 (Blk.new _ _ _)
  have hbel1 : Below w.heap.size w w1 := by repeat (with_reducible first | exact Below.refl _ _ | assumption | refine Bel.alloc ?_ _ | refine Bel.step (by assumption) ?_ | refine Below.drew ?_ | refine Bel.drewN ?_ _ | refine Below.setCell ?_ (by first | exact Nat.le_refl _ | omega | (simp; done) | (simp; omega)) _)
  clear hb1
  by_cases hk : lyC C us vs e = 0
  rotate_left
  · have HK := Lib.hid (le_no hk)
    have b1 : (lyC C us vs e != 0) = true := by simpa using hk
    clear hk
    go_wp2
    go_ret2
    exact ⟨by rw [HK.out.1, HK.out.2]; rfl, by repeat (with_reducible first | exact Below.refl _ _ | assumption | refine Bel.alloc ?_ _ | refine Bel.step (by assumption) ?_ | refine Below.drew ?_ | refine Bel.drewN ?_ _ | refine Below.setCell ?_ (by first | exact Nat.le_refl _ | omega | (simp; done) | (simp; omega)) _)⟩
  have HK := Lib.hid (le_0 hk)
  have HY := Lib.hid (lyC_0 hk)
  rw [hk]
  clear hk
  have p0 : w1.cell? ⟨w.heap.size, 0, none⟩ = some (.int .i64 C.dg) := by rw [HC1.cell]; rfl
  have p1 : w1.cell? ⟨w.heap.size, 1, none⟩ = some (.int .i64 C.tn) := by rw [HC1.cell]; rfl
  have p2 : w1.cell? ⟨w.heap.size, 2, none⟩ = some (.string C.nm) := by rw [HC1.cell]; rfl
  have p3 : w1.cell? ⟨w.heap.size, 3, none⟩ = some (.slice A C.zs.length c) := by rw [HC1.cell]; rfl
  have p4 : w1.cell? ⟨w.heap.size, 4, none⟩ = some (.int .i64 C.wd) := by rw [HC1.cell]; rfl
  have p5 : w1.cell? ⟨w.heap.size, 5, none⟩ = some (.int .i64 C.lf) := by rw [HC1.cell]; rfl
  have p6 : w1.cell? ⟨w.heap.size, 6, none⟩ = some (.int .i64 C.rt) := by rw [HC1.cell]; rfl
  clear HC1
  go_wp2_with fail
  go_at_call 147; refine (worstPair_c _ _ _ _ _ us _ _ vs e hn hm HY.out.1 HY.out.2.1 HY.out.2.2.1 HY.out.2.2.2.1.2 HY.out.2.2.2.2.1.2 HY.out.2.2.2.2.2.1 HY.out.2.2.2.2.2.2 _ (by repeat (with_reducible first | exact HI.out | assumption | refine Ints.drew ?_ | refine Ints.drewN _ ?_ | refine Ints.alloc _ ?_ | refine Ints.step (by assumption) ?_)) (by repeat (with_reducible first | exact HD.out | assumption | refine Prs.drew ?_ | refine Prs.drewN _ ?_ | refine Prs.alloc _ ?_ | refine Prs.step (by assumption) ?_)) (by repeat (with_reducible first | exact HE.out | assumption | refine Prs.drew ?_ | refine Prs.drewN _ ?_ | refine Prs.alloc _ ?_ | refine Prs.step (by assumption) ?_))).mono ?_; rintro r w2 ⟨rfl, hb2⟩
  go_wp2
  go_ret2
  exact ⟨by rw [HK.out.1, HK.out.2]; rfl, by repeat (with_reducible first | exact Below.refl _ _ | assumption | refine Bel.alloc ?_ _ | refine Bel.step (by assumption) ?_ | refine Below.drew ?_ | refine Bel.drewN ?_ _ | refine Below.setCell ?_ (by first | exact Nat.le_refl _ | omega | (simp; done) | (simp; omega)) _)⟩
set_option maxHeartbeats 2000000 in
theorem WorstPair_S (C : Ch) (A : Option Addr) (c : Nat) (D : Option Addr) (d : Nat) (us : List (Int × Int)) (E : Option Addr) (f : Nat) (vs : List (Int × Int)) (e : Int) (hn : C.zs.length ≤ 1048576) (hm : C.nm.size ≤ 1048576) (hu : us.length ≤ 1048576) (hv : vs.length ≤ 1048576) (w : World) (hA : Ints w A C.zs) (hD : Prs w D us) (hE : Prs w E vs) :
    Calls Try.prog 63 #[.agg #[.int .i64 C.dg, .int .i64 C.tn, .string C.nm, .slice A C.zs.length c, .int .i64 C.wd, .int .i64 C.lf, .int .i64 C.rt], .slice D us.length d, .slice E vs.length f, .int .i64 e] w fun r w' => r = .returned (.tuple #[.int .i64 (leV C us vs e).2.1, .int .i64 (leV C us vs e).2.2, .int .i64 (leC C us vs e)]) ∧ Below w.heap.size w w' := by
  have HI := Lib.hid hA
  have HD := Lib.hid hD
  have HE := Lib.hid hE
  clear hA hD hE
  go_enter Try.func63, Try.ntmps63
  go_wp2_with fail
  go_at_call 148; refine (l26Code_c _ _ _ _ _ us _ _ vs e hn hm hu hv _ (by repeat (with_reducible first | exact HI.out | assumption | refine Ints.drew ?_ | refine Ints.drewN _ ?_ | refine Ints.alloc _ ?_ | refine Ints.step (by assumption) ?_)) (by repeat (with_reducible first | exact HD.out | assumption | refine Prs.drew ?_ | refine Prs.drewN _ ?_ | refine Prs.alloc _ ?_ | refine Prs.step (by assumption) ?_)) (by repeat (with_reducible first | exact HE.out | assumption | refine Prs.drew ?_ | refine Prs.drewN _ ?_ | refine Prs.alloc _ ?_ | refine Prs.step (by assumption) ?_))).mono ?_; rintro r w1 ⟨rfl, hb1⟩
  have HC1 : Blk w1 w.heap.size 30 #[.int .i64 C.dg, .int .i64 C.tn, .string C.nm, .slice A C.zs.length c, .int .i64 C.wd, .int .i64 C.lf, .int .i64 C.rt] := Blk.step hb1 (Blk.new _ _ _)
  have hbel1 : Below w.heap.size w w1 := by repeat (with_reducible first | exact Below.refl _ _ | assumption | refine Bel.alloc ?_ _ | refine Bel.step (by assumption) ?_ | refine Below.drew ?_ | refine Bel.drewN ?_ _ | refine Below.setCell ?_ (by first | exact Nat.le_refl _ | omega | (simp; done) | (simp; omega)) _)
  clear hb1
  by_cases hk : lyC C us vs e = 0
  rotate_left
  · have HK := Lib.hid (le_no hk)
    have b1 : (lyC C us vs e != 0) = true := by simpa using hk
    clear hk
    go_wp2
    refine bodyPost_ret (results_three rfl _ _ _) rfl ⟨by rw [HK.out.1, HK.out.2]; rfl, by repeat (with_reducible first | exact Below.refl _ _ | assumption | refine Bel.alloc ?_ _ | refine Bel.step (by assumption) ?_ | refine Below.drew ?_ | refine Bel.drewN ?_ _ | refine Below.setCell ?_ (by first | exact Nat.le_refl _ | omega | (simp; done) | (simp; omega)) _)⟩
  have HK := Lib.hid (le_0 hk)
  have HY := Lib.hid (lyC_0 hk)
  rw [hk]
  clear hk
  have p0 : w1.cell? ⟨w.heap.size, 0, none⟩ = some (.int .i64 C.dg) := by rw [HC1.cell]; rfl
  have p1 : w1.cell? ⟨w.heap.size, 1, none⟩ = some (.int .i64 C.tn) := by rw [HC1.cell]; rfl
  have p2 : w1.cell? ⟨w.heap.size, 2, none⟩ = some (.string C.nm) := by rw [HC1.cell]; rfl
  have p3 : w1.cell? ⟨w.heap.size, 3, none⟩ = some (.slice A C.zs.length c) := by rw [HC1.cell]; rfl
  have p4 : w1.cell? ⟨w.heap.size, 4, none⟩ = some (.int .i64 C.wd) := by rw [HC1.cell]; rfl
  have p5 : w1.cell? ⟨w.heap.size, 5, none⟩ = some (.int .i64 C.lf) := by rw [HC1.cell]; rfl
  have p6 : w1.cell? ⟨w.heap.size, 6, none⟩ = some (.int .i64 C.rt) := by rw [HC1.cell]; rfl
  clear HC1
  go_wp2_with fail
  go_at_call 149; refine (l26Worst_c _ _ _ _ _ us _ _ vs e hn hm HY.out.1 HY.out.2.1 HY.out.2.2.1 HY.out.2.2.2.1.2 HY.out.2.2.2.2.1.2 HY.out.2.2.2.2.2.1 HY.out.2.2.2.2.2.2 _ (by repeat (with_reducible first | exact HI.out | assumption | refine Ints.drew ?_ | refine Ints.drewN _ ?_ | refine Ints.alloc _ ?_ | refine Ints.step (by assumption) ?_)) (by repeat (with_reducible first | exact HD.out | assumption | refine Prs.drew ?_ | refine Prs.drewN _ ?_ | refine Prs.alloc _ ?_ | refine Prs.step (by assumption) ?_)) (by repeat (with_reducible first | exact HE.out | assumption | refine Prs.drew ?_ | refine Prs.drewN _ ?_ | refine Prs.alloc _ ?_ | refine Prs.step (by assumption) ?_))).mono ?_; rintro r w2 ⟨rfl, hb2⟩
  go_wp2
  refine bodyPost_ret (results_three rfl _ _ _) rfl ⟨by rw [HK.out.1, HK.out.2]; rfl, by repeat (with_reducible first | exact Below.refl _ _ | assumption | refine Bel.alloc ?_ _ | refine Bel.step (by assumption) ?_ | refine Below.drew ?_ | refine Bel.drewN ?_ _ | refine Below.setCell ?_ (by first | exact Nat.le_refl _ | omega | (simp; done) | (simp; omega)) _)⟩
set_option maxHeartbeats 2000000 in
theorem WorstPair_I (C : Ch) (A : Option Addr) (c : Nat) (D : Option Addr) (d : Nat) (us : List (Int × Int)) (E : Option Addr) (f : Nat) (vs : List (Int × Int)) (e : Int) (hn : C.zs.length ≤ 1048576) (hm : C.nm.size ≤ 1048576) (hu : us.length ≤ 1048576) (hv : vs.length ≤ 1048576) (w : World) (hA : Ints w A C.zs) (hD : Prs w D us) (hE : Prs w E vs) :
    Calls Try.prog 62 #[.agg #[.int .i64 C.dg, .int .i64 C.tn, .string C.nm, .slice A C.zs.length c, .int .i64 C.wd, .int .i64 C.lf, .int .i64 C.rt], .slice D us.length d, .slice E vs.length f, .int .i64 e] w fun r w' => r = .returned (.tuple #[.int .i64 (leV C us vs e).2.1, .int .i64 (leV C us vs e).2.2, .int .i64 (leC C us vs e)]) ∧ Below w.heap.size w w' := by
  have HI := Lib.hid hA
  have HD := Lib.hid hD
  have HE := Lib.hid hE
  clear hA hD hE
  go_enter Try.func62, Try.ntmps62
  go_wp2_with fail
  go_at_call 146; refine (checkSamples_c _ _ _ _ _ us _ _ vs e hn hm hu hv _ (by repeat (with_reducible first | exact HI.out | assumption | refine Ints.drew ?_ | refine Ints.drewN _ ?_ | refine Ints.alloc _ ?_ | refine Ints.step (by assumption) ?_)) (by repeat (with_reducible first | exact HD.out | assumption | refine Prs.drew ?_ | refine Prs.drewN _ ?_ | refine Prs.alloc _ ?_ | refine Prs.step (by assumption) ?_)) (by repeat (with_reducible first | exact HE.out | assumption | refine Prs.drew ?_ | refine Prs.drewN _ ?_ | refine Prs.alloc _ ?_ | refine Prs.step (by assumption) ?_))).mono ?_; rintro r w1 ⟨rfl, hb1⟩
  have HC1 : Blk w1 w.heap.size 30 #[.int .i64 C.dg, .int .i64 C.tn, .string C.nm, .slice A C.zs.length c, .int .i64 C.wd, .int .i64 C.lf, .int .i64 C.rt] := Blk.step hb1 (Blk.new _ _ _)
  have hbel1 : Below w.heap.size w w1 := by repeat (with_reducible first | exact Below.refl _ _ | assumption | refine Bel.alloc ?_ _ | refine Bel.step (by assumption) ?_ | refine Below.drew ?_ | refine Bel.drewN ?_ _ | refine Below.setCell ?_ (by first | exact Nat.le_refl _ | omega | (simp; done) | (simp; omega)) _)
  clear hb1
  by_cases hk : lyC C us vs e = 0
  rotate_left
  · have HK := Lib.hid (le_no hk)
    have b1 : (lyC C us vs e != 0) = true := by simpa using hk
    clear hk
    go_wp2
    refine bodyPost_ret (results_three rfl _ _ _) rfl ⟨by rw [HK.out.1, HK.out.2]; rfl, by repeat (with_reducible first | exact Below.refl _ _ | assumption | refine Bel.alloc ?_ _ | refine Bel.step (by assumption) ?_ | refine Below.drew ?_ | refine Bel.drewN ?_ _ | refine Below.setCell ?_ (by first | exact Nat.le_refl _ | omega | (simp; done) | (simp; omega)) _)⟩
  have HK := Lib.hid (le_0 hk)
  have HY := Lib.hid (lyC_0 hk)
  rw [hk]
  clear hk
  have p0 : w1.cell? ⟨w.heap.size, 0, none⟩ = some (.int .i64 C.dg) := by rw [HC1.cell]; rfl
  have p1 : w1.cell? ⟨w.heap.size, 1, none⟩ = some (.int .i64 C.tn) := by rw [HC1.cell]; rfl
  have p2 : w1.cell? ⟨w.heap.size, 2, none⟩ = some (.string C.nm) := by rw [HC1.cell]; rfl
  have p3 : w1.cell? ⟨w.heap.size, 3, none⟩ = some (.slice A C.zs.length c) := by rw [HC1.cell]; rfl
  have p4 : w1.cell? ⟨w.heap.size, 4, none⟩ = some (.int .i64 C.wd) := by rw [HC1.cell]; rfl
  have p5 : w1.cell? ⟨w.heap.size, 5, none⟩ = some (.int .i64 C.lf) := by rw [HC1.cell]; rfl
  have p6 : w1.cell? ⟨w.heap.size, 6, none⟩ = some (.int .i64 C.rt) := by rw [HC1.cell]; rfl
  clear HC1
  go_wp2_with fail
  go_at_call 147; refine (worstPair_c _ _ _ _ _ us _ _ vs e hn hm HY.out.1 HY.out.2.1 HY.out.2.2.1 HY.out.2.2.2.1.2 HY.out.2.2.2.2.1.2 HY.out.2.2.2.2.2.1 HY.out.2.2.2.2.2.2 _ (by repeat (with_reducible first | exact HI.out | assumption | refine Ints.drew ?_ | refine Ints.drewN _ ?_ | refine Ints.alloc _ ?_ | refine Ints.step (by assumption) ?_)) (by repeat (with_reducible first | exact HD.out | assumption | refine Prs.drew ?_ | refine Prs.drewN _ ?_ | refine Prs.alloc _ ?_ | refine Prs.step (by assumption) ?_)) (by repeat (with_reducible first | exact HE.out | assumption | refine Prs.drew ?_ | refine Prs.drewN _ ?_ | refine Prs.alloc _ ?_ | refine Prs.step (by assumption) ?_))).mono ?_; rintro r w2 ⟨rfl, hb2⟩
  go_wp2
  refine bodyPost_ret (results_three rfl _ _ _) rfl ⟨by rw [HK.out.1, HK.out.2]; rfl, by repeat (with_reducible first | exact Below.refl _ _ | assumption | refine Bel.alloc ?_ _ | refine Bel.step (by assumption) ?_ | refine Below.drew ?_ | refine Bel.drewN ?_ _ | refine Below.setCell ?_ (by first | exact Nat.le_refl _ | omega | (simp; done) | (simp; omega)) _)⟩
end Go.Proofs.Ytpmcgicopogbhaa
