/- The statement FnExactBestModuli, walked. No conditions. -/
import Derived.Test.YtkhcepkcdfpofaaProg
import Derived.Test.YtkhcepkcdfpofaaBase
import Derived.Test.YtkhcepkcdfpofaaRw
import Derived.Test.YtkhcepkcdfpofaaRg
import Derived.Test.YtkhcepkcdfpofaaL01
import Derived.Test.YtkhcepkcdfpofaaCp
import Derived.Test.YtkhcepkcdfpofaaCh
import Derived.Test.YtkhcepkcdfpofaaL18
import Derived.Test.YtkhcepkcdfpofaaW23
import Derived.Test.YtkhcepkcdfpofaaL23
import Derived.Test.YtkhcepkcdfpofaaL03
import Derived.Test.YtkhcepkcdfpofaaL04
import Derived.Test.YtkhcepkcdfpofaaL23d
import Derived.Test.YtkhcepkcdfpofaaL23e
import Derived.Test.YtkhcepkcdfpofaaL23f
import Derived.Test.YtkhcepkcdfpofaaL24
import Derived.Test.YtkhcepkcdfpofaaL24b
import Derived.Test.YtkhcepkcdfpofaaL24c
import Derived.Test.YtkhcepkcdfpofaaL24d
import Derived.Test.YtkhcepkcdfpofaaL24f
import Derived.Test.YtkhcepkcdfpofaaL24g
import Derived.Test.YtkhcepkcdfpofaaL24r
import Derived.Test.YtkhcepkcdfpofaaL23b
import Derived.Test.YtkhcepkcdfpofaaL23g
import Derived.Test.YtkhcepkcdfpofaaL23h
import Derived.Test.YtkhcepkcdfpofaaM24
import Derived.Test.YtkhcepkcdfpofaaM24r
import Derived.Test.YtkhcepkcdfpofaaL26a
import Derived.Test.YtkhcepkcdfpofaaL26b
import Derived.Test.YtkhcepkcdfpofaaL26c
import Derived.Test.YtkhcepkcdfpofaaL26d
import Derived.Test.YtkhcepkcdfpofaaL26h
import Derived.Test.YtkhcepkcdfpofaaL26i
import Derived.Test.YtkhcepkcdfpofaaL26j
import Derived.Test.YtkhcepkcdfpofaaL26k
import Derived.Test.YtkhcepkcdfpofaaL26m
import Derived.Test.YtkhcepkcdfpofaaL26n
import Derived.Test.YtkhcepkcdfpofaaL26o
import Derived.WalkKit
import Derived.WalkSpells
import Derived.WalkLawsBesides
import Derived.Lib.Hide
import Derived.Deep.QuietTactic
import Derived.BigQuiet
import Derived.Deep.Draws
import Derived.Deep.RegionHeld3
import Derived.Deep.Cut
import Derived.Deep.WholeRow
namespace Go.Proofs.Ytkhcepkcdfpofaa
open Go.RowKit
set_option linter.unusedVariables false
set_option maxRecDepth 50000 in
set_option maxHeartbeats 2000000 in
theorem FnExactBestModuli_w (w : World) (C : Ch) (A : Option Addr) (c : Nat) (hl : C.zs.length ≤ 9223372036854775807) (hA : Ints w A C.zs) (hs : C.nm.size ≤ 9223372036854775807) (M : Option Addr) (mc : Nat) (ms : List Int) (hlm : ms.length ≤ 9223372036854775807) (hM : Ints w M ms) (D : Option Addr) (d : Nat) (us : List (Int × Int)) (hlu : us.length ≤ 9223372036854775807) (hD : Prs w D us) (E : Option Addr) (f : Nat) (vs : List (Int × Int)) (hlv : vs.length ≤ 9223372036854775807) (hE : Prs w E vs) (e : Int) (ge : (Lit.int .i64 e).wf = true) (most : Int) (gm : (Lit.int .i64 most).wf = true) :
    Calls Try.prog 11 #[.agg #[.int .i64 C.dg, .int .i64 C.tn, .string C.nm, .slice A C.zs.length c, .int .i64 C.wd, .int .i64 C.lf, .int .i64 C.rt], .slice M ms.length mc, .slice D us.length d, .slice E vs.length f, .int .i64 e, .int .i64 most] w fun r w' => r = .returned (.bool true) ∧ Below w.heap.size w w' := by
  by_cases hx : ms.length ≤ 1048576
  rotate_left
  · have hx' : ¬ (ms.length : Int) ≤ 1048576 := by omega
    go_enter Try.func11, Try.ntmps11
    go_wp2
    go_ret
    exact ⟨rfl, by repeat (with_reducible first | exact Below.refl _ _ | assumption | refine Bel.alloc ?_ _ | refine Bel.step (by assumption) ?_ | refine Below.drew ?_ | refine Bel.drewN ?_ _ | refine Below.setCell ?_ (by first | exact Nat.le_refl _ | omega | (simp; done) | (simp; omega)) _)⟩
  by_cases hz : C.nm.size + C.zs.length ≤ 1048576
  rotate_left
  · have HZ := Lib.hid (sz2_no hz)
    go_enter Try.func11, Try.ntmps11
    go_wp2_with fail
    go_at_call 13; refine (szChart_c _ _ _ _ (by omega) (by omega) (by assumption) (by assumption) _).mono ?_; rintro e w1 ⟨rfl, hb1⟩; obtain ⟨hc1, hf1, hz1⟩ := bel hb1; (try simp only [World.size_drew, World.cell?_drew, World.frozen?_drew] at hc1 hf1 hz1); (try simp only [World.heap_drewN, World.cell?_drewN, World.frozen?_drewN] at hc1 hf1 hz1); (try have hl1 : w.heap.size < w1.heap.size := by (have hq := hb1.size; (try simp at hq); omega)); (try have hm1 : w.heap.size + 1 < w1.heap.size := by (have hq := hb1.size; (try simp at hq); omega)); (try have hn1 : w.heap.size + 1 + 1 < w1.heap.size := by (have hq := hb1.size; (try simp at hq); omega)); (try have hp1 : b < w1.heap.size := by (have hq := hb1.size; (try simp at hq); omega)); (try have ho1 : b' < w1.heap.size := by (have hq := hb1.size; (try simp at hq); omega))
    rw [HZ.out]
    go_wp2
    go_ret
    exact ⟨rfl, by repeat (with_reducible first | exact Below.refl _ _ | assumption | refine Bel.alloc ?_ _ | refine Bel.step (by assumption) ?_ | refine Below.drew ?_ | refine Bel.drewN ?_ _ | refine Below.setCell ?_ (by first | exact Nat.le_refl _ | omega | (simp; done) | (simp; omega)) _)⟩
  have HZ := Lib.hid (sz2_ok hz)
  by_cases hz2 : C.nm.size + C.zs.length + us.length ≤ 1048576
  rotate_left
  · have HZ2 := Lib.hid (show szV (1048576 - C.nm.size - C.zs.length) us.length = -1 by unfold szV; rw [if_pos (by omega)])
    have hq : (0 : Int) ≤ 1048576 - C.nm.size - C.zs.length := by omega
    go_enter Try.func11, Try.ntmps11
    go_wp2_with fail
    go_at_call 13; refine (szChart_c _ _ _ _ (by omega) (by omega) (by assumption) (by assumption) _).mono ?_; rintro e w1 ⟨rfl, hb1⟩; obtain ⟨hc1, hf1, hz1⟩ := bel hb1; (try simp only [World.size_drew, World.cell?_drew, World.frozen?_drew] at hc1 hf1 hz1); (try simp only [World.heap_drewN, World.cell?_drewN, World.frozen?_drewN] at hc1 hf1 hz1); (try have hl1 : w.heap.size < w1.heap.size := by (have hq := hb1.size; (try simp at hq); omega)); (try have hm1 : w.heap.size + 1 < w1.heap.size := by (have hq := hb1.size; (try simp at hq); omega)); (try have hn1 : w.heap.size + 1 + 1 < w1.heap.size := by (have hq := hb1.size; (try simp at hq); omega)); (try have hp1 : b < w1.heap.size := by (have hq := hb1.size; (try simp at hq); omega)); (try have ho1 : b' < w1.heap.size := by (have hq := hb1.size; (try simp at hq); omega))
    rw [HZ.out]
    have hbel1 : Below w.heap.size w w1 := by repeat (with_reducible first | exact Below.refl _ _ | assumption | refine Bel.alloc ?_ _ | refine Bel.step (by assumption) ?_ | refine Below.drew ?_ | refine Bel.drewN ?_ _ | refine Below.setCell ?_ (by first | exact Nat.le_refl _ | omega | (simp; done) | (simp; omega)) _)
    clear hb1 hc1 hf1 hz1
    go_wp2_with fail
    refine (szFigureS_c D us.length d (1048576 - C.nm.size - C.zs.length) (by omega) (by omega) hlu _).mono ?_; rintro e w' ⟨rfl, rfl⟩
    rw [HZ2.out]
    go_wp2
    go_ret
    exact ⟨rfl, by repeat (with_reducible first | exact Below.refl _ _ | assumption | refine Bel.alloc ?_ _ | refine Bel.step (by assumption) ?_ | refine Below.drew ?_ | refine Bel.drewN ?_ _ | refine Below.setCell ?_ (by first | exact Nat.le_refl _ | omega | (simp; done) | (simp; omega)) _)⟩
  have HZ2 := Lib.hid (show szV (1048576 - C.nm.size - C.zs.length) us.length = 1048576 - C.nm.size - C.zs.length - us.length by unfold szV; rw [if_neg (by omega)])
  by_cases hz3 : C.nm.size + C.zs.length + us.length + vs.length ≤ 1048576
  rotate_left
  · have HZ3 := Lib.hid (show szV (1048576 - C.nm.size - C.zs.length - us.length) vs.length = -1 by unfold szV; rw [if_pos (by omega)])
    have hq : (0 : Int) ≤ 1048576 - C.nm.size - C.zs.length := by omega
    have hq2 : (0 : Int) ≤ 1048576 - C.nm.size - C.zs.length - us.length := by omega
    go_enter Try.func11, Try.ntmps11
    go_wp2_with fail
    go_at_call 13; refine (szChart_c _ _ _ _ (by omega) (by omega) (by assumption) (by assumption) _).mono ?_; rintro e w1 ⟨rfl, hb1⟩; obtain ⟨hc1, hf1, hz1⟩ := bel hb1; (try simp only [World.size_drew, World.cell?_drew, World.frozen?_drew] at hc1 hf1 hz1); (try simp only [World.heap_drewN, World.cell?_drewN, World.frozen?_drewN] at hc1 hf1 hz1); (try have hl1 : w.heap.size < w1.heap.size := by (have hq := hb1.size; (try simp at hq); omega)); (try have hm1 : w.heap.size + 1 < w1.heap.size := by (have hq := hb1.size; (try simp at hq); omega)); (try have hn1 : w.heap.size + 1 + 1 < w1.heap.size := by (have hq := hb1.size; (try simp at hq); omega)); (try have hp1 : b < w1.heap.size := by (have hq := hb1.size; (try simp at hq); omega)); (try have ho1 : b' < w1.heap.size := by (have hq := hb1.size; (try simp at hq); omega))
    rw [HZ.out]
    have hbel1 : Below w.heap.size w w1 := by repeat (with_reducible first | exact Below.refl _ _ | assumption | refine Bel.alloc ?_ _ | refine Bel.step (by assumption) ?_ | refine Below.drew ?_ | refine Bel.drewN ?_ _ | refine Below.setCell ?_ (by first | exact Nat.le_refl _ | omega | (simp; done) | (simp; omega)) _)
    clear hb1 hc1 hf1 hz1
    go_wp2_with fail
    refine (szFigureS_c D us.length d (1048576 - C.nm.size - C.zs.length) (by omega) (by omega) hlu _).mono ?_; rintro e w' ⟨rfl, rfl⟩
    rw [HZ2.out]
    go_wp2_with fail
    refine (szFigureS_c E vs.length f (1048576 - C.nm.size - C.zs.length - us.length) (by omega) (by omega) hlv _).mono ?_; rintro e w' ⟨rfl, rfl⟩
    rw [HZ3.out]
    go_wp2
    go_ret
    exact ⟨rfl, by repeat (with_reducible first | exact Below.refl _ _ | assumption | refine Bel.alloc ?_ _ | refine Bel.step (by assumption) ?_ | refine Below.drew ?_ | refine Bel.drewN ?_ _ | refine Below.setCell ?_ (by first | exact Nat.le_refl _ | omega | (simp; done) | (simp; omega)) _)⟩
  have HZ3 := Lib.hid (show szV (1048576 - C.nm.size - C.zs.length - us.length) vs.length = 1048576 - C.nm.size - C.zs.length - us.length - vs.length by unfold szV; rw [if_neg (by omega)])
  have hn : C.zs.length ≤ 1048576 := by omega
  have hm : C.nm.size ≤ 1048576 := by omega
  have hu : us.length ≤ 1048576 := by omega
  have hv : vs.length ≤ 1048576 := by omega
  have hq : (0 : Int) ≤ 1048576 - C.nm.size - C.zs.length := by omega
  have hq2 : (0 : Int) ≤ 1048576 - C.nm.size - C.zs.length - us.length := by omega
  have hq3 : (0 : Int) ≤ 1048576 - C.nm.size - C.zs.length - us.length - vs.length := by omega
  clear hz hz2 hz3
  go_enter Try.func11, Try.ntmps11
  go_wp2_with fail
  go_at_call 13; refine (szChart_c _ _ _ _ (by omega) (by omega) (by assumption) (by assumption) _).mono ?_; rintro e w1 ⟨rfl, hb1⟩; obtain ⟨hc1, hf1, hz1⟩ := bel hb1; (try simp only [World.size_drew, World.cell?_drew, World.frozen?_drew] at hc1 hf1 hz1); (try simp only [World.heap_drewN, World.cell?_drewN, World.frozen?_drewN] at hc1 hf1 hz1); (try have hl1 : w.heap.size < w1.heap.size := by (have hq := hb1.size; (try simp at hq); omega)); (try have hm1 : w.heap.size + 1 < w1.heap.size := by (have hq := hb1.size; (try simp at hq); omega)); (try have hn1 : w.heap.size + 1 + 1 < w1.heap.size := by (have hq := hb1.size; (try simp at hq); omega)); (try have hp1 : b < w1.heap.size := by (have hq := hb1.size; (try simp at hq); omega)); (try have ho1 : b' < w1.heap.size := by (have hq := hb1.size; (try simp at hq); omega))
  rw [HZ.out]
  have hbel1 : Below w.heap.size w w1 := by repeat (with_reducible first | exact Below.refl _ _ | assumption | refine Bel.alloc ?_ _ | refine Bel.step (by assumption) ?_ | refine Below.drew ?_ | refine Bel.drewN ?_ _ | refine Below.setCell ?_ (by first | exact Nat.le_refl _ | omega | (simp; done) | (simp; omega)) _)
  have HC1 : Blk w1 w.heap.size 28 #[.int .i64 C.dg, .int .i64 C.tn, .string C.nm, .slice A C.zs.length c, .int .i64 C.wd, .int .i64 C.lf, .int .i64 C.rt] := Blk.step hb1 (Blk.new _ _ _)
  have HI1 := Lib.hid (Ints.step hbel1 hA)
  have HD1 := Lib.hid (Prs.step hbel1 hD)
  have HM1 := Lib.hid (Ints.step hbel1 hM)
  have HE1 := Lib.hid (Prs.step hbel1 hE)
  clear hb1 hc1 hf1 hz1
  go_wp2_with fail
  refine (szFigureS_c D us.length d (1048576 - C.nm.size - C.zs.length) (by omega) (by omega) hlu _).mono ?_; rintro e w' ⟨rfl, rfl⟩
  rw [HZ2.out]
  go_wp2_with fail
  refine (szFigureS_c E vs.length f (1048576 - C.nm.size - C.zs.length - us.length) (by omega) (by omega) hlv _).mono ?_; rintro e w' ⟨rfl, rfl⟩
  rw [HZ3.out]
  go_wp2_with (refine wpList_load_blkG 28 _ _ HC1 Try.underlying28 (by kernel_rfl) rfl rfl (by rfl) ?_)
  go_at_call 16; refine (toChart_c C A c hn _ (by repeat (with_reducible first | exact HI1.out | assumption | refine Ints.drew ?_ | refine Ints.drewN _ ?_ | refine Ints.alloc _ ?_ | refine Ints.step (by assumption) ?_))).mono ?_; rintro r w4 ⟨g4, rfl, hg4, hB4, hb4⟩
  have HJ4 := hB4.ints
  go_wp2_with fail
  go_at_call 43; refine (toInt64S_c M mc ms hx _ (Ints.step hb4 HM1.out)).mono ?_; rintro r w24 ⟨rfl, hB24, hb24⟩
  have HN24 := hB24.ints
  have HJ24 := Ints.step hb24 HJ4
  have hb4 := (show Below w1.heap.size w1 w24 from Bel.step hb24 hb4)
  clear hB24 hb24 HJ4
  go_wp2_with fail
  go_at_call 17; refine (toFigureS_c D d us hu _ (Prs.step hb4 HD1.out)).mono ?_; rintro r w5 ⟨rfl, hB5, hb5⟩
  have HU5 := hB5.prs
  have HJ5 := Ints.step hb5 HJ24
  have HN5 := Ints.step hb5 HN24
  have HE5 := Prs.step hb5 (Prs.step hb4 HE1.out)
  go_wp2_with fail
  go_at_call 17; refine (toFigureS_c E f vs hv _ HE5).mono ?_; rintro r w6 ⟨rfl, hB6, hb6⟩
  have HV6 := hB6.prs
  have HU6 := Prs.step hb6 HU5
  have HJ6 := Ints.step hb6 HJ5
  have HN6 := Ints.step hb6 HN5
  have HC6 := Blk.step hb6 (Blk.step hb5 (Blk.step hb4 HC1))
  have hbel6 := Bel.step hb6 (Bel.step hb5 (Bel.step hb4 hbel1))
  clear hb4 hb5 hb6 hB4 hB5 hB6 HJ24 HJ5 HU5 HE5 HN24 HN5 HC1 HI1 HD1 HE1 HM1 hbel1
  go_wp2_with fail
  go_at_call 42; refine (BestModuli_S _ _ _ _ _ ms _ _ us _ _ vs e most hn hm hx hu hv _ HJ6 HN6 HU6 HV6).mono ?_; rintro r w7 ⟨rfl, hb7⟩
  have HC7 := Blk.step hb7 HC6
  have hbel7 := Bel.step hb7 hbel6
  have HI7 := Lib.hid (Ints.step hbel7 hA)
  have HM7 := Lib.hid (Ints.step hbel7 hM)
  have HD7 := Lib.hid (Prs.step hbel7 hD)
  have HE7 := Lib.hid (Prs.step hbel7 hE)
  clear hb7 HC6 HJ6 HU6 HV6 HN6 hbel6
  go_wp2_with (refine wpList_load_blkG 28 _ _ HC7 Try.underlying28 (by kernel_rfl) rfl rfl (by rfl) ?_)
  go_at_call 16; refine (toChart_c C A c hn _ (by repeat (with_reducible first | exact HI7.out | assumption | refine Ints.drew ?_ | refine Ints.drewN _ ?_ | refine Ints.alloc _ ?_ | refine Ints.step (by assumption) ?_))).mono ?_; rintro r w8 ⟨g8, rfl, hg8, hB8, hb8⟩
  go_wp2_with (refine wpList_store_blk (cs := #[.int .i64 C.dg, .int .i64 C.tn, .string C.nm, .slice (some ⟨g8, 0, none⟩) C.zs.length C.zs.length, .int .i64 C.wd, .int .i64 C.lf, .int .i64 C.rt]) 38 _ _ _ (Blk.new _ _ _) (by kernel_rfl) rfl (by simp [Value.oneCell']) rfl rfl rfl rfl ?_)
  rw [World.setRow_alloc_new]
  have HY8 : Blk (w8.alloc (.cells #[.int .i64 C.dg, .int .i64 C.tn, .string C.nm, .slice (some ⟨g8, 0, none⟩) C.zs.length C.zs.length, .int .i64 C.wd, .int .i64 C.lf, .int .i64 C.rt] 38)) w8.heap.size 38 #[.int .i64 C.dg, .int .i64 C.tn, .string C.nm, .slice (some ⟨g8, 0, none⟩) C.zs.length C.zs.length, .int .i64 C.wd, .int .i64 C.lf, .int .i64 C.rt] := Blk.new _ _ _
  have HJ8 : Hid (Ints (w8.alloc (.cells #[.int .i64 C.dg, .int .i64 C.tn, .string C.nm, .slice (some ⟨g8, 0, none⟩) C.zs.length C.zs.length, .int .i64 C.wd, .int .i64 C.lf, .int .i64 C.rt] 38)) (some ⟨g8, 0, none⟩) C.zs) := Ints.alloc _ hB8.ints
  have HC8 : Blk (w8.alloc (.cells #[.int .i64 C.dg, .int .i64 C.tn, .string C.nm, .slice (some ⟨g8, 0, none⟩) C.zs.length C.zs.length, .int .i64 C.wd, .int .i64 C.lf, .int .i64 C.rt] 38)) w.heap.size 28 #[.int .i64 C.dg, .int .i64 C.tn, .string C.nm, .slice A C.zs.length c, .int .i64 C.wd, .int .i64 C.lf, .int .i64 C.rt] := Blk.alloc _ (Blk.step hb8 HC7)
  have HM8 : Hid (Ints (w8.alloc (.cells #[.int .i64 C.dg, .int .i64 C.tn, .string C.nm, .slice (some ⟨g8, 0, none⟩) C.zs.length C.zs.length, .int .i64 C.wd, .int .i64 C.lf, .int .i64 C.rt] 38)) M ms) := Ints.alloc _ (Ints.step hb8 HM7.out)
  have HD8 : Hid (Prs (w8.alloc (.cells #[.int .i64 C.dg, .int .i64 C.tn, .string C.nm, .slice (some ⟨g8, 0, none⟩) C.zs.length C.zs.length, .int .i64 C.wd, .int .i64 C.lf, .int .i64 C.rt] 38)) D us) := Prs.alloc _ (Prs.step hb8 HD7.out)
  have HE8 : Hid (Prs (w8.alloc (.cells #[.int .i64 C.dg, .int .i64 C.tn, .string C.nm, .slice (some ⟨g8, 0, none⟩) C.zs.length C.zs.length, .int .i64 C.wd, .int .i64 C.lf, .int .i64 C.rt] 38)) E vs) := Prs.alloc _ (Prs.step hb8 HE7.out)
  have hbel8 : Below w.heap.size w (w8.alloc (.cells #[.int .i64 C.dg, .int .i64 C.tn, .string C.nm, .slice (some ⟨g8, 0, none⟩) C.zs.length C.zs.length, .int .i64 C.wd, .int .i64 C.lf, .int .i64 C.rt] 38)) := by repeat (with_reducible first | exact Below.refl _ _ | assumption | refine Bel.alloc ?_ _ | refine Bel.step (by assumption) ?_ | refine Below.drew ?_ | refine Bel.drewN ?_ _ | refine Below.setCell ?_ (by first | exact Nat.le_refl _ | omega | (simp; done) | (simp; omega)) _)
  clear hb8 hB8 hg8 HC7 HI7 HD7 HE7 HM7 hbel7
  generalize w8.alloc (.cells #[.int .i64 C.dg, .int .i64 C.tn, .string C.nm, .slice (some ⟨g8, 0, none⟩) C.zs.length C.zs.length, .int .i64 C.wd, .int .i64 C.lf, .int .i64 C.rt] 38) = V at HY8 HJ8 HC8 HM8 HD8 HE8 hbel8 ⊢
  generalize w8.heap.size = Y at HY8 ⊢
  go_at_call 43; refine (toInt64S_c M mc ms hx _ HM8.out).mono ?_; rintro r w29 ⟨rfl, hB29, hb29⟩
  generalize V.heap.size = X0 at hB29 ⊢
  have HD8 := Lib.hid (Prs.step hb29 HD8.out)
  have HE8 := Lib.hid (Prs.step hb29 HE8.out)
  have HY8 := Blk.step hb29 HY8
  have HJ8 := Lib.hid (Ints.step hb29 HJ8.out)
  have HC8 := Blk.step hb29 HC8
  have hbel8 := Bel.step hb29 hbel8
  clear hb29 HM8
  go_wp2_with fail
  go_at_call 17; refine (toFigureS_c D d us hu _ HD8.out).mono ?_; rintro r w9 ⟨rfl, hB9, hb9⟩
  generalize w29.heap.size = X1 at hB9 ⊢
  have HX0 := Blk.step hb9 hB29
  have HE9 := Prs.step hb9 HE8.out
  have HY9 := Blk.step hb9 HY8
  have HJ9 := Ints.step hb9 HJ8.out
  have HC9 := Blk.step hb9 HC8
  have hbel9 := Bel.step hb9 hbel8
  clear hb9 HD8 HE8 HY8 HJ8 HC8 hbel8
  go_wp2_with fail
  go_at_call 17; refine (toFigureS_c E f vs hv _ HE9).mono ?_; rintro r w10 ⟨rfl, hB10, hb10⟩
  generalize w9.heap.size = X2 at hB10 ⊢
  have HX1 := Blk.step hb10 hB9
  have HX0 := Blk.step hb10 HX0
  have HY10 := Blk.step hb10 HY9
  have HJ10 := Ints.step hb10 HJ9
  have HC10 := Blk.step hb10 HC9
  have hbel10 := Bel.step hb10 hbel9
  clear hb10 hB9 HE9 HY9 HJ9 HC9 hbel9
  go_wp2_with (refine wpList_load_blkG 38 _ _ HY10 Try.underlying38 (by kernel_rfl) rfl rfl (by rfl) ?_)
  go_at_call 44; refine (BestModuli_I _ _ _ _ _ ms _ _ us _ _ vs e most hn hm hx hu hv _ HJ10 HX0.ints HX1.prs hB10.prs).mono ?_; rintro r w11 ⟨rfl, hb11⟩
  have HX1b := Blk.step hb11 HX1
  have HX0b := Blk.step hb11 HX0
  have HX2 := Blk.step hb11 hB10
  have HY11 := Blk.step hb11 HY10
  have HJ11 := Ints.step hb11 HJ10
  have HC11 := Blk.step hb11 HC10
  have hbel11 := Bel.step hb11 hbel10
  have HI11 := Lib.hid (Ints.step hbel11 hA)
  clear hb11 hB10 HX1 HX0 HY10 HJ10 HC10 hbel10
  go_upto_region 21 with (fail)
  refine wp_region_held_drew (S := fun W => Blk W Y 38 #[.int .i64 C.dg, .int .i64 C.tn, .string C.nm, .slice (some ⟨g8, 0, none⟩) C.zs.length C.zs.length, .int .i64 C.wd, .int .i64 C.lf, .int .i64 C.rt] ∧ Blk W w.heap.size 28 #[.int .i64 C.dg, .int .i64 C.tn, .string C.nm, .slice A C.zs.length c, .int .i64 C.wd, .int .i64 C.lf, .int .i64 C.rt]) (by kernel_rfl) (⟨Blk.drew HY11, Blk.drew HC11⟩) (fun hHeld => ?_)
  have hbA : Below w.heap.size w w11.drew := Below.drew hbel11
  have HIA : Ints w11.drew A C.zs := HI11.out
  have HJA : Ints w11.drew (some ⟨g8, 0, none⟩) C.zs := HJ11
  have HXA : Blk w11.drew X1 34 (icells (flat us)) := HX1b
  have HXB : Blk w11.drew X2 34 (icells (flat vs)) := HX2
  have HXM : Blk w11.drew X0 2 (icells ms) := HX0b
  generalize w11.drew = wE at hbA HIA HJA HXA HXB HXM hHeld ⊢
  clear HY11 HC11 HI11 HJ11 HX1b HX2 HX0b
  refine wpAnyH_take (i := 0) (v := .agg #[.int .i64 C.dg, .int .i64 C.tn, .string C.nm, .slice (some ⟨g8, 0, none⟩) C.zs.length C.zs.length, .int .i64 C.wd, .int .i64 C.lf, .int .i64 C.rt]) rfl (by kernel_rfl) (by kernel_rfl) (by kernel_rfl) (fun _ _ _ h => h) (yieldsIf_load_blk 38 _ (Y) (fun _ h => h.1) Try.underlying38 (by kernel_rfl) (by rfl) rfl rfl) hHeld ?_
  try simp only [Act.put, List.setIfInBounds_toArray, List.set_cons_zero, List.set_cons_succ]
  refine wpAnyH_take (i := 1) (v := .agg #[.int .i64 C.dg, .int .i64 C.tn, .string C.nm, .slice A C.zs.length c, .int .i64 C.wd, .int .i64 C.lf, .int .i64 C.rt]) rfl (by kernel_rfl) (by kernel_rfl) (by kernel_rfl) (fun _ _ _ h => h) (yieldsIf_load_blk 28 _ (w.heap.size) (fun _ h => h.2) Try.underlying28 (by kernel_rfl) (by rfl) rfl rfl) hHeld ?_
  try simp only [Act.put, List.setIfInBounds_toArray, List.set_cons_zero, List.set_cons_succ]
  refine wpAnyH_ready (rs := [2]) (by kernel_rfl) (by simp) ?_
  refine AllReadyH.cons rfl (fun K hK => ?_) AllReadyH.nil
  go_simp
  go_at_call 16; refine (toChart_c _ _ _ hn _ HIA).mono ?_; rintro e w12 ⟨g12, rfl, hg12, hB12, hb12⟩; obtain ⟨hc12, hf12, hz12⟩ := bel hb12; (try simp only [World.size_drew, World.cell?_drew, World.frozen?_drew] at hc12 hf12 hz12); (try simp only [World.heap_drewN, World.cell?_drewN, World.frozen?_drewN] at hc12 hf12 hz12); (try have hl12 : w.heap.size < w12.heap.size := by (have hq := hb12.size; (try simp at hq); omega)); (try have hm12 : w.heap.size + 1 < w12.heap.size := by (have hq := hb12.size; (try simp at hq); omega)); (try have hn122 : w.heap.size + 1 + 1 < w12.heap.size := by (have hq := hb12.size; (try simp at hq); omega)); (try have hp12 : b < w12.heap.size := by (have hq := hb12.size; (try simp at hq); omega)); (try have ho12 : b' < w12.heap.size := by (have hq := hb12.size; (try simp at hq); omega))
  go_wp2_with fail
  refine hK.out _ _ (⟨Blk.step hb12 hHeld.1, Blk.step hb12 hHeld.2⟩) (fun hHeld => ?_)
  clear hK K
  try simp only [Act.put, List.setIfInBounds_toArray, List.set_cons_zero, List.set_cons_succ]
  have hbel12 := Bel.step hb12 hbA
  have HJ12 := Ints.step hb12 HJA
  have HK12 := hB12.ints
  have HXA2 := Blk.step hb12 HXA
  have HXB2 := Blk.step hb12 HXB
  have HXM2 := Blk.step hb12 HXM
  clear hb12 hc12 hf12 hz12 hB12 hg12 HXA HXB HXM
  refine wpAnyH_ready (rs := [3]) (by kernel_rfl) (by simp) ?_
  refine AllReadyH.cons rfl (fun K hK => ?_) AllReadyH.nil
  go_simp
  go_at_call 19; refine (eqChart_c _ _ _ _ _ hn _ HJ12 HK12).mono ?_; rintro e w13 ⟨rfl, hb13⟩; obtain ⟨hc13, hf13, hz13⟩ := bel hb13; (try simp only [World.size_drew, World.cell?_drew, World.frozen?_drew] at hc13 hf13 hz13); (try simp only [World.heap_drewN, World.cell?_drewN, World.frozen?_drewN] at hc13 hf13 hz13); (try have hl13 : w.heap.size < w13.heap.size := by (have hq := hb13.size; (try simp at hq); omega)); (try have hm13 : w.heap.size + 1 < w13.heap.size := by (have hq := hb13.size; (try simp at hq); omega)); (try have hn133 : w.heap.size + 1 + 1 < w13.heap.size := by (have hq := hb13.size; (try simp at hq); omega)); (try have hp13 : b < w13.heap.size := by (have hq := hb13.size; (try simp at hq); omega)); (try have ho13 : b' < w13.heap.size := by (have hq := hb13.size; (try simp at hq); omega))
  go_wp2_with fail
  refine hK.out _ _ (⟨Blk.step hb13 hHeld.1, Blk.step hb13 hHeld.2⟩) (fun hHeld => ?_)
  clear hK K
  try simp only [Act.put, List.setIfInBounds_toArray, List.set_cons_zero, List.set_cons_succ]
  have hbel13 := Bel.step hb13 hbel12
  have HXA3 := Blk.step hb13 HXA2
  have HXB3 := Blk.step hb13 HXB2
  have HXM3 := Blk.step hb13 HXM2
  clear hb13 hc13 hf13 hz13 HXA2 HXB2 HXM2
  refine wpAnyH_take (i := 4) (v := (.bool false)) rfl (by kernel_rfl) (by kernel_rfl) (by kernel_rfl) (fun _ _ _ h => h) (Or.inl ⟨by rfl, fun w _ => by simp [go_sem, execOp]⟩) hHeld ?_
  try simp only [Act.put, List.setIfInBounds_toArray, List.set_cons_zero, List.set_cons_succ]
  refine wpAnyH_done (by kernel_rfl) ?_ _
  clear hHeld
  have HM13 := Ints.step hbel13 hM
  go_wp2_with fail
  go_at_call 43; refine (toInt64S_c M mc ms hx _ HM13).mono ?_; rintro r w34 ⟨rfl, hB34, hb34⟩
  have HXA3 := Blk.step hb34 HXA3
  have HXB3 := Blk.step hb34 HXB3
  have HXM4 := Blk.step hb34 HXM3
  have hbel13 := Bel.step hb34 hbel13
  clear hb34 HM13 HXM3
  go_wp2_with fail
  go_at_call 45; refine (eqInt64S_c _ _ _ _ ms ms hx hx _ HXM4.ints hB34.ints).mono ?_; rintro r w35 ⟨rfl, n35, rfl⟩
  rw [eqL_self]
  have HXA3 := Blk.drewN n35 HXA3
  have HXB3 := Blk.drewN n35 HXB3
  have hbel13 := Bel.drewN hbel13 n35
  clear HXM4 hB34
  generalize w34.drewN n35 = w36 at HXA3 HXB3 hbel13 ⊢
  have HD13 := Prs.step hbel13 hD
  go_wp2_with fail
  go_at_call 17; refine (toFigureS_c D d us hu _ HD13).mono ?_; rintro r w14 ⟨rfl, hB14, hb14⟩
  have HXA4 := Blk.step hb14 HXA3
  have HXB4 := Blk.step hb14 HXB3
  have hbel14 := Bel.step hb14 hbel13
  clear hb14 HXA3 HXB3 HD13
  go_wp2_with fail
  go_at_call 20; refine (eqFigureS_c _ _ _ _ us us hu hu _ HXA4.prs hB14.prs).mono ?_; rintro r w15 ⟨rfl, hb15⟩
  rw [eqL_self]
  have HXB5 := Blk.step hb15 HXB4
  have hbel15 := Bel.step hb15 hbel14
  have HE15 := Prs.step hbel15 hE
  clear hb15 HXA4 HXB4 hB14
  go_wp2_with fail
  go_at_call 17; refine (toFigureS_c E f vs hv _ HE15).mono ?_; rintro r w16 ⟨rfl, hB16, hb16⟩
  have HXB6 := Blk.step hb16 HXB5
  have hbel16 := Bel.step hb16 hbel15
  clear hb16 HXB5 HE15
  go_wp2_with fail
  go_at_call 20; refine (eqFigureS_c _ _ _ _ vs vs hv hv _ HXB6.prs hB16.prs).mono ?_; rintro r w17 ⟨rfl, hb17⟩
  rw [eqL_self]
  have hbel17 := Bel.step hb17 hbel16
  clear hb17
  go_wp2
  go_ret
  exact ⟨rfl, hbel17⟩
end Go.Proofs.Ytkhcepkcdfpofaa
