/- The statement FnExactTightenBound, walked. No conditions. -/
import Derived.Test.YtkhcepkcdfpofaaProg
import Derived.Test.YtkhcepkcdfpofaaBase
import Derived.Test.YtkhcepkcdfpofaaRw
import Derived.Test.YtkhcepkcdfpofaaRg
import Derived.Test.YtkhcepkcdfpofaaRp
import Derived.Test.YtkhcepkcdfpofaaRq
import Derived.Test.YtkhcepkcdfpofaaL01
import Derived.Test.YtkhcepkcdfpofaaCp
import Derived.Test.YtkhcepkcdfpofaaCh
import Derived.Test.YtkhcepkcdfpofaaCm
import Derived.Test.YtkhcepkcdfpofaaL18
import Derived.Test.YtkhcepkcdfpofaaL18c
import Derived.Test.YtkhcepkcdfpofaaL23
import Derived.Test.YtkhcepkcdfpofaaL23b
import Derived.Test.YtkhcepkcdfpofaaW23
import Derived.Test.YtkhcepkcdfpofaaL03
import Derived.Test.YtkhcepkcdfpofaaL23d
import Derived.Test.YtkhcepkcdfpofaaL23e
import Derived.Test.YtkhcepkcdfpofaaL23f
import Derived.Test.YtkhcepkcdfpofaaL24
import Derived.Test.YtkhcepkcdfpofaaL24b
import Derived.Test.YtkhcepkcdfpofaaL23g
import Derived.Test.YtkhcepkcdfpofaaL23h
import Derived.Test.YtkhcepkcdfpofaaL27o
import Derived.Test.YtkhcepkcdfpofaaL27a
import Derived.Test.YtkhcepkcdfpofaaL27b
import Derived.Test.YtkhcepkcdfpofaaL27v
import Derived.Test.YtkhcepkcdfpofaaW27
import Derived.WalkKit
import Derived.WalkSpells
import Derived.WalkLawsBesides
import Derived.Lib.Hide
import Derived.Deep.QuietTactic
import Derived.BigQuiet
import Derived.Deep.Draws
import Derived.Deep.RegionHeld3
import Derived.Deep.Cut
import Derived.Deep.WholeRow
namespace Go.Proofs.Ytkhcepkcdfpofaa
open Go.RowKit
set_option linter.unusedVariables false
theorem tbV_len {R : Re} (hn : R.ch.zs.length ≤ 1048576) : (tbV R).ch.zs.length ≤ 1048576 := by
  unfold tbV
  split
  · exact hn
  · simp [ZR]
set_option maxRecDepth 50000 in
set_option maxHeartbeats 4000000 in
theorem FnExactTightenBound_w (w : World) (R : Re) (A : Option Addr) (c : Nat) (hl : R.ch.zs.length ≤ 9223372036854775807) (hA : Ints w A R.ch.zs) (hs : R.ch.nm.size ≤ 9223372036854775807) :
    Calls Try.prog 8 #[.agg #[.int .i64 R.ch.dg, .int .i64 R.ch.tn, .string R.ch.nm, .slice A R.ch.zs.length c, .int .i64 R.ch.wd, .int .i64 R.ch.lf, .int .i64 R.ch.rt, .int .i64 R.ad, .int .i64 R.at_, .int .i64 R.bd, .int .i64 R.bt, .int .i64 R.cd, .int .i64 R.ct, .int .i64 R.dd, .int .i64 R.dt, .int .i64 R.ey, .int .i64 R.bo]] w fun e w' => e = .returned (.bool true) ∧ Below w.heap.size w w' := by
  by_cases hz : R.ch.nm.size + R.ch.zs.length ≤ 1048576
  rotate_left
  · have HZ := Lib.hid (sz2_no hz)
    go_enter Try.func8, Try.ntmps8
    go_wp2_with fail
    go_at_call 27; refine (szRelease_c _ _ _ _ (by omega) (by omega) (by assumption) (by assumption) _).mono ?_; rintro e w1 ⟨rfl, hb1⟩; obtain ⟨hc1, hf1, hz1⟩ := bel hb1; (try simp only [World.size_drew, World.cell?_drew, World.frozen?_drew] at hc1 hf1 hz1); (try simp only [World.heap_drewN, World.cell?_drewN, World.frozen?_drewN] at hc1 hf1 hz1); (try have hl1 : w.heap.size < w1.heap.size := by (have hq := hb1.size; (try simp at hq); omega)); (try have hm1 : w.heap.size + 1 < w1.heap.size := by (have hq := hb1.size; (try simp at hq); omega)); (try have hn1 : w.heap.size + 1 + 1 < w1.heap.size := by (have hq := hb1.size; (try simp at hq); omega)); (try have hp1 : b < w1.heap.size := by (have hq := hb1.size; (try simp at hq); omega)); (try have ho1 : b' < w1.heap.size := by (have hq := hb1.size; (try simp at hq); omega))
    rw [HZ.out]
    go_wp2
    go_ret
    exact ⟨rfl, by repeat (with_reducible first | exact Below.refl _ _ | assumption | refine Bel.alloc ?_ _ | refine Bel.step (by assumption) ?_ | refine Below.drew ?_ | refine Bel.drewN ?_ _ | refine Below.setCell ?_ (by first | exact Nat.le_refl _ | omega | (simp; done) | (simp; omega)) _)⟩
  have HZ := Lib.hid (sz2_ok hz)
  have hn : R.ch.zs.length ≤ 1048576 := by omega
  have hm : R.ch.nm.size ≤ 1048576 := by omega
  have hn0 : (0 : Int) ≤ 1048576 - R.ch.nm.size - R.ch.zs.length := by omega
  have hd := tbV_len hn
  clear hz
  go_enter Try.func8, Try.ntmps8
  go_wp2_with fail
  go_at_call 27; refine (szRelease_c _ _ _ _ (by omega) (by omega) (by assumption) (by assumption) _).mono ?_; rintro e w1 ⟨rfl, hb1⟩; obtain ⟨hc1, hf1, hz1⟩ := bel hb1; (try simp only [World.size_drew, World.cell?_drew, World.frozen?_drew] at hc1 hf1 hz1); (try simp only [World.heap_drewN, World.cell?_drewN, World.frozen?_drewN] at hc1 hf1 hz1); (try have hl1 : w.heap.size < w1.heap.size := by (have hq := hb1.size; (try simp at hq); omega)); (try have hm1 : w.heap.size + 1 < w1.heap.size := by (have hq := hb1.size; (try simp at hq); omega)); (try have hn1 : w.heap.size + 1 + 1 < w1.heap.size := by (have hq := hb1.size; (try simp at hq); omega)); (try have hp1 : b < w1.heap.size := by (have hq := hb1.size; (try simp at hq); omega)); (try have ho1 : b' < w1.heap.size := by (have hq := hb1.size; (try simp at hq); omega))
  rw [HZ.out]
  have hbel1 : Below w.heap.size w w1 := by repeat (with_reducible first | exact Below.refl _ _ | assumption | refine Bel.alloc ?_ _ | refine Bel.step (by assumption) ?_ | refine Below.drew ?_ | refine Bel.drewN ?_ _ | refine Below.setCell ?_ (by first | exact Nat.le_refl _ | omega | (simp; done) | (simp; omega)) _)
  have HB1 : Blk w1 w.heap.size 52 #[.int .i64 R.ch.dg, .int .i64 R.ch.tn, .string R.ch.nm, .slice A R.ch.zs.length c, .int .i64 R.ch.wd, .int .i64 R.ch.lf, .int .i64 R.ch.rt, .int .i64 R.ad, .int .i64 R.at_, .int .i64 R.bd, .int .i64 R.bt, .int .i64 R.cd, .int .i64 R.ct, .int .i64 R.dd, .int .i64 R.dt, .int .i64 R.ey, .int .i64 R.bo] := Blk.step hb1 (Blk.new _ _ _)
  have s1 := hb1.size
  simp only [World.size_alloc] at s1
  clear hb1 hc1 hf1 hz1
  go_wp2_with (refine wpList_load_blkG 52 _ _ HB1 Try.underlying52 (by kernel_rfl) rfl rfl (by rfl) ?_)
  go_at_call 29; refine (toRelease_c R A c hn _ (Ints.step hbel1 hA)).mono ?_; rintro e w2 ⟨g2, rfl, hg2, hB2, hb2⟩
  go_wp2_with fail
  go_at_call 35; refine (TightenBound_S R _ _ hn hm _ hB2.ints).mono ?_; rintro e w3 ⟨A3, kk3, rfl, hO3, hb3⟩
  have s2 := hb2.size
  have s3 := hb3.size
  have HB3 := Blk.step hb3 (Blk.step hb2 HB1)
  have hbel3 := Bel.step hb3 (Bel.step hb2 hbel1)
  clear hb2 hb3 hB2 hg2 HB1 hbel1
  go_wp2_with (first | (refine wpList_store_blk (cs := #[.int .i64 (tbV R).ch.dg, .int .i64 (tbV R).ch.tn, .string (tbV R).ch.nm, .slice A3 (tbV R).ch.zs.length kk3, .int .i64 (tbV R).ch.wd, .int .i64 (tbV R).ch.lf, .int .i64 (tbV R).ch.rt, .int .i64 (tbV R).ad, .int .i64 (tbV R).at_, .int .i64 (tbV R).bd, .int .i64 (tbV R).bt, .int .i64 (tbV R).cd, .int .i64 (tbV R).ct, .int .i64 (tbV R).dd, .int .i64 (tbV R).dt, .int .i64 (tbV R).ey, .int .i64 (tbV R).bo]) 55 _ _ _ (Blk.new _ _ _) (by kernel_rfl) rfl (by simp [Value.oneCell']) rfl rfl rfl rfl ?_; rw [World.setRow_alloc_new]) | (refine wpList_load_blkG 52 _ _ (Blk.alloc _ HB3) Try.underlying52 (by kernel_rfl) rfl rfl (by rfl) ?_))
  go_at_call 29; refine (toRelease_c R A c hn _ (Ints.alloc _ (Ints.step hbel3 hA))).mono ?_; rintro e w4 ⟨g4, rfl, hg4, hB4, hb4⟩
  have s4 := hb4.size
  have gl4 := hB4.lt
  simp only [World.size_alloc] at s4 hg4
  have HB4 := Blk.step hb4 (Blk.alloc (.cells #[.int .i64 (tbV R).ch.dg, .int .i64 (tbV R).ch.tn, .string (tbV R).ch.nm, .slice A3 (tbV R).ch.zs.length kk3, .int .i64 (tbV R).ch.wd, .int .i64 (tbV R).ch.lf, .int .i64 (tbV R).ch.rt, .int .i64 (tbV R).ad, .int .i64 (tbV R).at_, .int .i64 (tbV R).bd, .int .i64 (tbV R).bt, .int .i64 (tbV R).cd, .int .i64 (tbV R).ct, .int .i64 (tbV R).dd, .int .i64 (tbV R).dt, .int .i64 (tbV R).ey, .int .i64 (tbV R).bo] 55) HB3)
  have HW4 := Blk.step hb4 (Blk.new w3 55 #[.int .i64 (tbV R).ch.dg, .int .i64 (tbV R).ch.tn, .string (tbV R).ch.nm, .slice A3 (tbV R).ch.zs.length kk3, .int .i64 (tbV R).ch.wd, .int .i64 (tbV R).ch.lf, .int .i64 (tbV R).ch.rt, .int .i64 (tbV R).ad, .int .i64 (tbV R).at_, .int .i64 (tbV R).bd, .int .i64 (tbV R).bt, .int .i64 (tbV R).cd, .int .i64 (tbV R).ct, .int .i64 (tbV R).dd, .int .i64 (tbV R).dt, .int .i64 (tbV R).ey, .int .i64 (tbV R).bo])
  have hO4 := Own.step hb4 (Own.alloc (.cells #[.int .i64 (tbV R).ch.dg, .int .i64 (tbV R).ch.tn, .string (tbV R).ch.nm, .slice A3 (tbV R).ch.zs.length kk3, .int .i64 (tbV R).ch.wd, .int .i64 (tbV R).ch.lf, .int .i64 (tbV R).ch.rt, .int .i64 (tbV R).ad, .int .i64 (tbV R).at_, .int .i64 (tbV R).bd, .int .i64 (tbV R).bt, .int .i64 (tbV R).cd, .int .i64 (tbV R).ct, .int .i64 (tbV R).dd, .int .i64 (tbV R).dt, .int .i64 (tbV R).ey, .int .i64 (tbV R).bo] 55) hO3)
  have hbel4 : Below w.heap.size w w4 := by repeat (with_reducible first | exact Below.refl _ _ | assumption | refine Bel.alloc ?_ _ | refine Bel.step (by assumption) ?_ | refine Below.drew ?_ | refine Bel.drewN ?_ _ | refine Below.setCell ?_ (by first | exact Nat.le_refl _ | omega | (simp; done) | (simp; omega)) _)
  clear hb4 HB3 hbel3
  go_wp2_with (first | (refine wpList_store_blk (cs := #[.int .i64 R.ch.dg, .int .i64 R.ch.tn, .string R.ch.nm, .slice (some ⟨g4, 0, none⟩) R.ch.zs.length R.ch.zs.length, .int .i64 R.ch.wd, .int .i64 R.ch.lf, .int .i64 R.ch.rt, .int .i64 R.ad, .int .i64 R.at_, .int .i64 R.bd, .int .i64 R.bt, .int .i64 R.cd, .int .i64 R.ct, .int .i64 R.dd, .int .i64 R.dt, .int .i64 R.ey, .int .i64 R.bo]) 55 _ _ _ (Blk.new _ _ _) (by kernel_rfl) rfl (by simp [Value.oneCell']) rfl rfl rfl rfl ?_; rw [World.setRow_alloc_new]) | (refine wpList_load_blkG 55 _ _ (Blk.new _ _ _) Try.underlying55 (by kernel_rfl) rfl rfl (by rfl) ?_))
  go_at_call 36; refine (TightenBound_I R _ _ hn hm _ (Ints.alloc _ hB4.ints)).mono ?_; rintro e w5 ⟨A5, kk5, rfl, hO5, hb5⟩
  have s5 := hb5.size
  simp only [World.size_alloc] at s5
  have hq0 : (0 : Int) ≤ (R.ch.zs.length : Int) := by omega
  have hq1 : (0 : Int) ≤ ((tbV R).ch.zs.length : Int) := by omega
  have hO5b := hO5
  simp only [World.size_alloc] at hO5b
  have o35 : (Value.slice A3 (tbV R).ch.zs.length kk3).ownBlock = none ∨ (Value.slice A3 (tbV R).ch.zs.length kk3).ownBlock ≠ (Value.slice A5 (tbV R).ch.zs.length kk5).ownBlock := own_ne_own hO3 hO5b (by omega)
  have o3g : (Value.slice A3 (tbV R).ch.zs.length kk3).ownBlock = none ∨ (Value.slice A3 (tbV R).ch.zs.length kk3).ownBlock ≠ some g4 := own_ne_lo hO3 (by omega)
  have o5g : (Value.slice A5 (tbV R).ch.zs.length kk5).ownBlock = none ∨ (Value.slice A5 (tbV R).ch.zs.length kk5).ownBlock ≠ some g4 := own_ne_hi hO5b (by omega)
  have o50 : ∀ k, (Value.slice A5 (tbV R).ch.zs.length kk5).ownBlock = some k → w.heap.size < k := fun k hk => by have := (hO5b.lt k hk).1; omega
  have o54 : (Value.slice A5 (tbV R).ch.zs.length kk5).ownBlock ≠ some w3.heap.size := own_btw hO5b (by omega)
  have o56 : (Value.slice A5 (tbV R).ch.zs.length kk5).ownBlock ≠ some w4.heap.size := own_btw hO5b (by omega)
  have o57 : (Value.slice A5 (tbV R).ch.zs.length kk5).ownBlock ≠ some w5.heap.size := own_btw hO5b (by omega)
  have hbel5 : Below w.heap.size w w5 := by repeat (with_reducible first | exact Below.refl _ _ | assumption | refine Bel.alloc ?_ _ | refine Bel.step (by assumption) ?_ | refine Below.drew ?_ | refine Bel.drewN ?_ _ | refine Below.setCell ?_ (by first | exact Nat.le_refl _ | omega | (simp; done) | (simp; omega)) _)
  have hS5 : SR w (w5.alloc (.cells #[.int .i64 (tbV R).ch.dg, .int .i64 (tbV R).ch.tn, .string (tbV R).ch.nm, .slice A5 (tbV R).ch.zs.length kk5, .int .i64 (tbV R).ch.wd, .int .i64 (tbV R).ch.lf, .int .i64 (tbV R).ch.rt, .int .i64 (tbV R).ad, .int .i64 (tbV R).at_, .int .i64 (tbV R).bd, .int .i64 (tbV R).bt, .int .i64 (tbV R).cd, .int .i64 (tbV R).ct, .int .i64 (tbV R).dd, .int .i64 (tbV R).dt, .int .i64 (tbV R).ey, .int .i64 (tbV R).bo] 55)) 52 55 2 R (tbV R) A A3 A5 c kk3 kk5 w3.heap.size w4.heap.size w5.heap.size g4 w2.heap.size (w4.heap.size + 1) (tbV R).ch.zs (tbV R).ch.zs :=
    ⟨Bel.alloc hbel5 _, Blk.alloc _ (Blk.step hb5 (Blk.alloc _ HB4)), Blk.alloc _ (Blk.step hb5 (Blk.alloc _ HW4)), Blk.alloc _ (Blk.step hb5 (Blk.new w4 _ _)), Blk.new _ _ _, Own.alloc _ (Own.step hb5 (Own.alloc _ hO4)), Own.alloc _ hO5b, hA⟩
  have hX5 := Blk.alloc (.cells #[.int .i64 (tbV R).ch.dg, .int .i64 (tbV R).ch.tn, .string (tbV R).ch.nm, .slice A5 (tbV R).ch.zs.length kk5, .int .i64 (tbV R).ch.wd, .int .i64 (tbV R).ch.lf, .int .i64 (tbV R).ch.rt, .int .i64 (tbV R).ad, .int .i64 (tbV R).at_, .int .i64 (tbV R).bd, .int .i64 (tbV R).bt, .int .i64 (tbV R).cd, .int .i64 (tbV R).ct, .int .i64 (tbV R).dd, .int .i64 (tbV R).dt, .int .i64 (tbV R).ey, .int .i64 (tbV R).bo] 55) (Blk.step hb5 (Blk.alloc (.cells #[.int .i64 R.ch.dg, .int .i64 R.ch.tn, .string R.ch.nm, .slice (some ⟨g4, 0, none⟩) R.ch.zs.length R.ch.zs.length, .int .i64 R.ch.wd, .int .i64 R.ch.lf, .int .i64 R.ch.rt, .int .i64 R.ad, .int .i64 R.at_, .int .i64 R.bd, .int .i64 R.bt, .int .i64 R.cd, .int .i64 R.ct, .int .i64 R.dd, .int .i64 R.dt, .int .i64 R.ey, .int .i64 R.bo] 55) hB4))
  have lw : w3.heap.size < w5.heap.size := by omega
  clear hb5 hB4 HB4 HW4 hO3 hO4 hO5 hO5b hbel4 hbel5
  go_wp2_with (first | (refine wpList_store_blk (cs := #[.int .i64 (tbV R).ch.dg, .int .i64 (tbV R).ch.tn, .string (tbV R).ch.nm, .slice A5 (tbV R).ch.zs.length kk5, .int .i64 (tbV R).ch.wd, .int .i64 (tbV R).ch.lf, .int .i64 (tbV R).ch.rt, .int .i64 (tbV R).ad, .int .i64 (tbV R).at_, .int .i64 (tbV R).bd, .int .i64 (tbV R).bt, .int .i64 (tbV R).cd, .int .i64 (tbV R).ct, .int .i64 (tbV R).dd, .int .i64 (tbV R).dt, .int .i64 (tbV R).ey, .int .i64 (tbV R).bo]) 55 _ _ _ (Blk.new _ _ _) (by kernel_rfl) rfl (by simp [Value.oneCell']) rfl rfl rfl rfl ?_; rw [World.setRow_alloc_new]) | (refine wpList_load_blkG 55 _ _ hS5.got Try.underlying55 (by kernel_rfl) rfl rfl (by rfl) ?_) | (refine wpList_load_blkG 55 _ _ hS5.want Try.underlying55 (by kernel_rfl) rfl rfl (by rfl) ?_))
  go_at_call 32; refine (eqRelease_c (tbV R) _ _ _ _ hd _ hS5.own5.ints hS5.own3.ints).mono ?_; rintro e w6 ⟨rfl, hb6⟩
  have hS6 := SR.step hb6 hS5
  have hX6 := Blk.step hb6 hX5
  have HI6 := Ints.step hS6.bel hS6.ints
  have HJ6 := hX6.ints
  clear hS5 hX5 hb6
  go_upto_region 10 with (fail)
  refine wp_region_held_drew (S := fun W => SR w W 52 55 2 R (tbV R) A A3 A5 c kk3 kk5 w3.heap.size w4.heap.size w5.heap.size g4 w2.heap.size (w4.heap.size + 1) (tbV R).ch.zs (tbV R).ch.zs) (by kernel_rfl) (SR.step (Below.drew (Below.refl _ _)) hS6) (fun hHeld => ?_)
  have hbA : Below w6.heap.size w6 w6.drew := Below.drew (Below.refl _ _)
  have hXA := Blk.step hbA hX6
  have HIA := Ints.step hbA HI6
  have HJA := Ints.step hbA HJ6
  generalize w6.drew = wA at hHeld hXA HIA HJA ⊢
  clear hS6 hX6 HI6 HJ6 hbA
  refine wpAnyH_take (i := 0) (v := .agg #[.int .i64 R.ch.dg, .int .i64 R.ch.tn, .string R.ch.nm, .slice (some ⟨g4, 0, none⟩) R.ch.zs.length R.ch.zs.length, .int .i64 R.ch.wd, .int .i64 R.ch.lf, .int .i64 R.ch.rt, .int .i64 R.ad, .int .i64 R.at_, .int .i64 R.bd, .int .i64 R.bt, .int .i64 R.cd, .int .i64 R.ct, .int .i64 R.dd, .int .i64 R.dt, .int .i64 R.ey, .int .i64 R.bo]) rfl (by kernel_rfl) (by kernel_rfl) (by kernel_rfl) (fun _ _ _ h => h) (yieldsIf_load_blk 55 _ (w4.heap.size) (fun _ h => h.x0) Try.underlying55 (by kernel_rfl) (by rfl) rfl rfl) hHeld ?_
  try simp only [Act.put, List.setIfInBounds_toArray, List.set_cons_zero, List.set_cons_succ]
  refine wpAnyH_take (i := 1) (v := .agg #[.int .i64 R.ch.dg, .int .i64 R.ch.tn, .string R.ch.nm, .slice A R.ch.zs.length c, .int .i64 R.ch.wd, .int .i64 R.ch.lf, .int .i64 R.ch.rt, .int .i64 R.ad, .int .i64 R.at_, .int .i64 R.bd, .int .i64 R.bt, .int .i64 R.cd, .int .i64 R.ct, .int .i64 R.dd, .int .i64 R.dt, .int .i64 R.ey, .int .i64 R.bo]) rfl (by kernel_rfl) (by kernel_rfl) (by kernel_rfl) (fun _ _ _ h => h) (yieldsIf_load_blk 52 _ (w.heap.size) (fun _ h => h.arg) Try.underlying52 (by kernel_rfl) (by rfl) rfl rfl) hHeld ?_
  try simp only [Act.put, List.setIfInBounds_toArray, List.set_cons_zero, List.set_cons_succ]
  refine wpAnyH_ready (rs := [2]) (by kernel_rfl) (by simp) ?_
  refine AllReadyH.cons rfl (fun K hK => ?_) AllReadyH.nil
  go_simp
  go_at_call 29; refine (toRelease_c _ _ _ hn _ HIA).mono ?_; rintro e w7 ⟨g7, rfl, hg7, hB7, hb7⟩; obtain ⟨hc7, hf7, hz7⟩ := bel hb7; (try simp only [World.size_drew, World.cell?_drew, World.frozen?_drew] at hc7 hf7 hz7); (try simp only [World.heap_drewN, World.cell?_drewN, World.frozen?_drewN] at hc7 hf7 hz7); (try have hl7 : w.heap.size < w7.heap.size := by (have hq := hb7.size; (try simp at hq); omega)); (try have hm7 : w.heap.size + 1 < w7.heap.size := by (have hq := hb7.size; (try simp at hq); omega)); (try have hn7 : w.heap.size + 1 + 1 < w7.heap.size := by (have hq := hb7.size; (try simp at hq); omega)); (try have hp7 : b < w7.heap.size := by (have hq := hb7.size; (try simp at hq); omega)); (try have ho7 : b' < w7.heap.size := by (have hq := hb7.size; (try simp at hq); omega))
  go_wp2_with fail
  refine hK.out _ _ (SR.step hb7 hHeld) (fun hHeld => ?_)
  clear hK K
  try simp only [Act.put, List.setIfInBounds_toArray, List.set_cons_zero, List.set_cons_succ]
  have HJ7 := Ints.step hb7 HJA
  have hX7 := Blk.step hb7 hXA
  have HK7 := hB7.ints
  clear hb7 hc7 hf7 hz7 hB7 hg7 HIA HJA hXA
  refine wpAnyH_ready (rs := [3]) (by kernel_rfl) (by simp) ?_
  refine AllReadyH.cons rfl (fun K hK => ?_) AllReadyH.nil
  go_simp
  go_at_call 32; refine (eqRelease_c _ _ _ _ _ hn _ HJ7 HK7).mono ?_; rintro e w8 ⟨rfl, hb8⟩; obtain ⟨hc8, hf8, hz8⟩ := bel hb8; (try simp only [World.size_drew, World.cell?_drew, World.frozen?_drew] at hc8 hf8 hz8); (try simp only [World.heap_drewN, World.cell?_drewN, World.frozen?_drewN] at hc8 hf8 hz8); (try have hl8 : w.heap.size < w8.heap.size := by (have hq := hb8.size; (try simp at hq); omega)); (try have hm8 : w.heap.size + 1 < w8.heap.size := by (have hq := hb8.size; (try simp at hq); omega)); (try have hn8 : w.heap.size + 1 + 1 < w8.heap.size := by (have hq := hb8.size; (try simp at hq); omega)); (try have hp8 : b < w8.heap.size := by (have hq := hb8.size; (try simp at hq); omega)); (try have ho8 : b' < w8.heap.size := by (have hq := hb8.size; (try simp at hq); omega))
  go_wp2_with fail
  refine hK.out _ _ (SR.step hb8 hHeld) (fun hHeld => ?_)
  clear hK K
  try simp only [Act.put, List.setIfInBounds_toArray, List.set_cons_zero, List.set_cons_succ]
  have hX8 := Blk.own (Blk.step hb8 hX7) (by unfold maxLen; omega) 0 (Nat.zero_le _)
  have hS8 := hHeld
  clear hb8 hc8 hf8 hz8 HJ7 HK7 hX7
  refine wpAnyH_take (i := 4) (v := (.bool false)) rfl (by kernel_rfl) (by kernel_rfl) (by kernel_rfl) (fun _ _ _ h => h) (Or.inl ⟨by rfl, fun w _ => by simp [go_sem, execOp]⟩) hHeld ?_
  try simp only [Act.put, List.setIfInBounds_toArray, List.set_cons_zero, List.set_cons_succ]
  refine wpAnyH_done (by kernel_rfl) ?_ _
  clear hHeld
  go_wp2_with (refine wpList_load_blkG 55 _ _ hS8.x0 Try.underlying55 (by kernel_rfl) rfl rfl (by rfl) ?_)
  refine (markRelease_c R _ _ _ _ _ 1 (by omega) (by omega) (by omega) _ hX8).mono ?_; rintro e w9 ⟨rfl, hX9, hg9⟩
  have hg9b : w8.grownBy w9 (some g4) := hg9
  have hS9 := SR.grown hg9b (fun k hk => by cases hk; omega) (fun h => by injection h; omega) (fun h => by injection h; omega) (fun h => by injection h; omega) o3g (Own.kept hS8.own5 hg9b o5g) hS8
  clear hX8 hX9 hg9 hg9b hS8
  go_wp2_with (first | (refine wpList_load_blkG 55 _ _ hS9.got Try.underlying55 (by kernel_rfl) rfl rfl (by rfl) ?_) | (refine wpList_load_blkG 55 _ _ hS9.want Try.underlying55 (by kernel_rfl) rfl rfl (by rfl) ?_))
  go_at_call 32; refine (eqRelease_c (tbV R) _ _ _ _ hd _ hS9.own5.ints hS9.own3.ints).mono ?_; rintro e w10 ⟨rfl, hb10⟩
  have hS10 := SR.step hb10 hS9
  clear hS9 hb10
  go_wp2_with (refine wpList_load_blkG 55 _ _ hS10.got Try.underlying55 (by kernel_rfl) rfl rfl (by rfl) ?_)
  refine (markRelease_c (tbV R) _ _ _ _ _ 1 (by omega) (by omega) (by omega) _ hS10.own5).mono ?_; rintro e w11 ⟨rfl, hM11, hg11⟩
  have hS11 := SR.grown hg11 o50 o54 o56 o57 o35 hM11 hS10
  clear hS10 hM11 hg11
  go_wp2_with (refine wpList_load_blkG 55 _ _ hS11.got Try.underlying55 (by kernel_rfl) rfl rfl (by rfl) ?_)
  refine (heldRelease_c (tbV R) _ _ _ (tbV R).ch.zs.length _ 1 (by omega) (by omega) (by omega) _ hS11.own5).mono ?_; rintro e w12 ⟨rfl, hb12⟩
  have hS12 := SR.step hb12 hS11
  clear hS11 hb12
  go_wp2_with (refine wpList_load_blkG 52 _ _ hS12.arg Try.underlying52 (by kernel_rfl) rfl rfl (by rfl) ?_)
  go_at_call 29; refine (toRelease_c R A c hn _ (Ints.step hS12.bel hS12.ints)).mono ?_; rintro e w13 ⟨g13, rfl, hg13, hB13, hb13⟩
  have hS13 := SR.step hb13 hS12
  clear hS12 hb13
  go_wp2_with fail
  go_at_call 36; refine (TightenBound_I R _ _ hn hm _ hB13.ints).mono ?_; rintro e w14 ⟨A14, kk14, rfl, hO14, hb14⟩
  have hS14 := SR.step hb14 hS13
  have hS15 := SR.step (Bel.alloc (Below.refl _ _) (.cells #[.int .i64 (tbV R).ch.dg, .int .i64 (tbV R).ch.tn, .string (tbV R).ch.nm, .slice A14 (tbV R).ch.zs.length kk14, .int .i64 (tbV R).ch.wd, .int .i64 (tbV R).ch.lf, .int .i64 (tbV R).ch.rt, .int .i64 (tbV R).ad, .int .i64 (tbV R).at_, .int .i64 (tbV R).bd, .int .i64 (tbV R).bt, .int .i64 (tbV R).cd, .int .i64 (tbV R).ct, .int .i64 (tbV R).dd, .int .i64 (tbV R).dt, .int .i64 (tbV R).ey, .int .i64 (tbV R).bo] 55)) hS14
  clear hS13 hb14 hS14 hB13 hg13
  go_wp2_with (first | (refine wpList_store_blk (cs := #[.int .i64 (tbV R).ch.dg, .int .i64 (tbV R).ch.tn, .string (tbV R).ch.nm, .slice A14 (tbV R).ch.zs.length kk14, .int .i64 (tbV R).ch.wd, .int .i64 (tbV R).ch.lf, .int .i64 (tbV R).ch.rt, .int .i64 (tbV R).ad, .int .i64 (tbV R).at_, .int .i64 (tbV R).bd, .int .i64 (tbV R).bt, .int .i64 (tbV R).cd, .int .i64 (tbV R).ct, .int .i64 (tbV R).dd, .int .i64 (tbV R).dt, .int .i64 (tbV R).ey, .int .i64 (tbV R).bo]) 55 _ _ _ (Blk.new _ _ _) (by kernel_rfl) rfl (by simp [Value.oneCell']) rfl rfl rfl rfl ?_; rw [World.setRow_alloc_new]) | (refine wpList_load_blkG 55 _ _ (Blk.new _ _ _) Try.underlying55 (by kernel_rfl) rfl rfl (by rfl) ?_) | (refine wpList_load_blkG 55 _ _ hS15.want Try.underlying55 (by kernel_rfl) rfl rfl (by rfl) ?_))
  go_at_call 32; refine (eqRelease_c (tbV R) _ _ _ _ hd _ (Own.alloc _ hO14).ints hS15.own3.ints).mono ?_; rintro e w16 ⟨rfl, hb16⟩
  have hS16 := SR.step hb16 hS15
  clear hS15 hb16
  go_wp2_with (refine wpList_load_blkG 55 _ _ hS16.got Try.underlying55 (by kernel_rfl) rfl rfl (by rfl) ?_)
  refine (heldRelease_c (tbV R) _ _ _ (tbV R).ch.zs.length _ 1 (by omega) (by omega) (by omega) _ hS16.own5).mono ?_; rintro e w17 ⟨rfl, hb17⟩
  have hS17 := SR.step hb17 hS16
  go_wp2
  go_ret
  exact ⟨rfl, hS17.bel⟩
end Go.Proofs.Ytkhcepkcdfpofaa
