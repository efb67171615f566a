/- The statement FnExactIsKept, walked. No conditions. -/
import Derived.Test.YteldaadpcponfaaProg
import Derived.Test.YteldaadpcponfaaBase
import Derived.Test.YteldaadpcponfaaRw
import Derived.Test.YteldaadpcponfaaL01
import Derived.Test.YteldaadpcponfaaCp
import Derived.Test.YteldaadpcponfaaCh
import Derived.Test.YteldaadpcponfaaL18
import Derived.Test.YteldaadpcponfaaW23
import Derived.Test.YteldaadpcponfaaRw
import Derived.Test.YteldaadpcponfaaL18c
import Derived.Test.YteldaadpcponfaaL23
import Derived.Test.YteldaadpcponfaaL03
import Derived.Test.YteldaadpcponfaaL23d
import Derived.Test.YteldaadpcponfaaL23e
import Derived.Test.YteldaadpcponfaaL23f
import Derived.Test.YteldaadpcponfaaL24
import Derived.Test.YteldaadpcponfaaL24b
import Derived.Test.YteldaadpcponfaaL23g
import Derived.Test.YteldaadpcponfaaL23h
import Derived.Test.YteldaadpcponfaaL27o
import Derived.Test.YteldaadpcponfaaL27a
import Derived.Test.YteldaadpcponfaaL27b
import Derived.Test.YteldaadpcponfaaL27c
import Derived.WalkKit
import Derived.WalkSpells
import Derived.WalkLawsBesides
import Derived.Lib.Hide
import Derived.Deep.QuietTactic
import Derived.BigQuiet
import Derived.Deep.Draws
import Derived.Deep.RegionHeld3
import Derived.Deep.Cut
import Derived.Deep.WholeRow
namespace Go.Proofs.Yteldaadpcponfaa
open Go.RowKit
set_option linter.unusedVariables false
set_option maxRecDepth 50000 in
set_option maxHeartbeats 2000000 in
theorem FnExactIsKept_w (w : World) (R : Re) (A : Option Addr) (c : Nat) (hl : R.ch.zs.length ≤ 9223372036854775807) (hA : Ints w A R.ch.zs) (hs : R.ch.nm.size ≤ 9223372036854775807) :
    Calls Try.prog 13 #[.agg #[.int .i64 R.ch.dg, .int .i64 R.ch.tn, .string R.ch.nm, .slice A R.ch.zs.length c, .int .i64 R.ch.wd, .int .i64 R.ch.lf, .int .i64 R.ch.rt, .int .i64 R.ad, .int .i64 R.at_, .int .i64 R.bd, .int .i64 R.bt, .int .i64 R.cd, .int .i64 R.ct, .int .i64 R.dd, .int .i64 R.dt, .int .i64 R.ey, .int .i64 R.bo]] w fun e w' => e = .returned (.bool true) ∧ Below w.heap.size w w' := by
  by_cases hz : R.ch.nm.size + R.ch.zs.length ≤ 1048576
  rotate_left
  · have HZ := Lib.hid (sz2_no hz)
    go_enter Try.func13, Try.ntmps13
    go_wp2_with fail
    go_at_call 47; refine (szRelease_c _ _ _ _ (by omega) (by omega) (by assumption) (by assumption) _).mono ?_; rintro e w1 ⟨rfl, hb1⟩; obtain ⟨hc1, hf1, hz1⟩ := bel hb1; (try simp only [World.size_drew, World.cell?_drew, World.frozen?_drew] at hc1 hf1 hz1); (try simp only [World.heap_drewN, World.cell?_drewN, World.frozen?_drewN] at hc1 hf1 hz1); (try have hl1 : w.heap.size < w1.heap.size := by (have hq := hb1.size; (try simp at hq); omega)); (try have hm1 : w.heap.size + 1 < w1.heap.size := by (have hq := hb1.size; (try simp at hq); omega)); (try have hn1 : w.heap.size + 1 + 1 < w1.heap.size := by (have hq := hb1.size; (try simp at hq); omega)); (try have hp1 : b < w1.heap.size := by (have hq := hb1.size; (try simp at hq); omega)); (try have ho1 : b' < w1.heap.size := by (have hq := hb1.size; (try simp at hq); omega))
    rw [HZ.out]
    go_wp2
    go_ret
    exact ⟨rfl, by repeat (with_reducible first | exact Below.refl _ _ | assumption | refine Bel.alloc ?_ _ | refine Bel.step (by assumption) ?_ | refine Below.drew ?_ | refine Bel.drewN ?_ _ | refine Below.setCell ?_ (by first | exact Nat.le_refl _ | omega | (simp; done) | (simp; omega)) _)⟩
  have HZ := Lib.hid (sz2_ok hz)
  have hn : R.ch.zs.length ≤ 1048576 := by omega
  have hm : R.ch.nm.size ≤ 1048576 := by omega
  have hn0 : (0 : Int) ≤ 1048576 - R.ch.nm.size - R.ch.zs.length := by omega
  clear hz
  go_enter Try.func13, Try.ntmps13
  go_wp2_with fail
  go_at_call 47; refine (szRelease_c _ _ _ _ (by omega) (by omega) (by assumption) (by assumption) _).mono ?_; rintro e w1 ⟨rfl, hb1⟩; obtain ⟨hc1, hf1, hz1⟩ := bel hb1; (try simp only [World.size_drew, World.cell?_drew, World.frozen?_drew] at hc1 hf1 hz1); (try simp only [World.heap_drewN, World.cell?_drewN, World.frozen?_drewN] at hc1 hf1 hz1); (try have hl1 : w.heap.size < w1.heap.size := by (have hq := hb1.size; (try simp at hq); omega)); (try have hm1 : w.heap.size + 1 < w1.heap.size := by (have hq := hb1.size; (try simp at hq); omega)); (try have hn1 : w.heap.size + 1 + 1 < w1.heap.size := by (have hq := hb1.size; (try simp at hq); omega)); (try have hp1 : b < w1.heap.size := by (have hq := hb1.size; (try simp at hq); omega)); (try have ho1 : b' < w1.heap.size := by (have hq := hb1.size; (try simp at hq); omega))
  rw [HZ.out]
  have hbel1 : Below w.heap.size w w1 := by repeat (with_reducible first | exact Below.refl _ _ | assumption | refine Bel.alloc ?_ _ | refine Bel.step (by assumption) ?_ | refine Below.drew ?_ | refine Bel.drewN ?_ _ | refine Below.setCell ?_ (by first | exact Nat.le_refl _ | omega | (simp; done) | (simp; omega)) _)
  have HB : Blk w1 w.heap.size 70 #[.int .i64 R.ch.dg, .int .i64 R.ch.tn, .string R.ch.nm, .slice A R.ch.zs.length c, .int .i64 R.ch.wd, .int .i64 R.ch.lf, .int .i64 R.ch.rt, .int .i64 R.ad, .int .i64 R.at_, .int .i64 R.bd, .int .i64 R.bt, .int .i64 R.cd, .int .i64 R.ct, .int .i64 R.dd, .int .i64 R.dt, .int .i64 R.ey, .int .i64 R.bo] := Blk.step hb1 (Blk.new _ _ _)
  have HI := Lib.hid (Ints.step hbel1 hA)
  clear hb1 hc1 hf1 hz1
  go_upto_region 5 with (fail)
  apply wp_region_lit
  refine wpList_load_blk 70 _ _ HB Try.underlying70 (by kernel_rfl) rfl rfl rfl ?_
  go_wp2_with fail
  go_at_call 49; refine (toRelease_c _ _ _ hn _ (by repeat (with_reducible first | exact HI.out | assumption | refine Ints.drew ?_ | refine Ints.drewN _ ?_ | refine Ints.alloc _ ?_ | refine Ints.step (by assumption) ?_))).mono ?_; rintro e w4 ⟨g4, rfl, hg4, hB4, hb4⟩; obtain ⟨hc4, hf4, hz4⟩ := bel hb4; (try simp only [World.size_drew, World.cell?_drew, World.frozen?_drew] at hc4 hf4 hz4); (try simp only [World.heap_drewN, World.cell?_drewN, World.frozen?_drewN] at hc4 hf4 hz4); (try have hl4 : w.heap.size < w4.heap.size := by (have hq := hb4.size; (try simp at hq); omega)); (try have hm4 : w.heap.size + 1 < w4.heap.size := by (have hq := hb4.size; (try simp at hq); omega)); (try have hn4 : w.heap.size + 1 + 1 < w4.heap.size := by (have hq := hb4.size; (try simp at hq); omega)); (try have hp4 : b < w4.heap.size := by (have hq := hb4.size; (try simp at hq); omega)); (try have ho4 : b' < w4.heap.size := by (have hq := hb4.size; (try simp at hq); omega))
  go_wp2_with fail
  go_at_call 52; refine (IsKept_S _ _ _ hn hm _ hB4.ints).mono ?_; rintro e w5 ⟨rfl, hb5⟩; obtain ⟨hc5, hf5, hz5⟩ := bel hb5; (try simp only [World.size_drew, World.cell?_drew, World.frozen?_drew] at hc5 hf5 hz5); (try simp only [World.heap_drewN, World.cell?_drewN, World.frozen?_drewN] at hc5 hf5 hz5); (try have hl5 : w.heap.size < w5.heap.size := by (have hq := hb5.size; (try simp at hq); omega)); (try have hm5 : w.heap.size + 1 < w5.heap.size := by (have hq := hb5.size; (try simp at hq); omega)); (try have hn5 : w.heap.size + 1 + 1 < w5.heap.size := by (have hq := hb5.size; (try simp at hq); omega)); (try have hp5 : b < w5.heap.size := by (have hq := hb5.size; (try simp at hq); omega)); (try have ho5 : b' < w5.heap.size := by (have hq := hb5.size; (try simp at hq); omega))
  have hbel5 : Below w.heap.size w w5 := by repeat (with_reducible first | exact Below.refl _ _ | assumption | refine Bel.alloc ?_ _ | refine Bel.step (by assumption) ?_ | refine Below.drew ?_ | refine Bel.drewN ?_ _ | refine Below.setCell ?_ (by first | exact Nat.le_refl _ | omega | (simp; done) | (simp; omega)) _)
  have HB5 : Blk w5 w.heap.size 70 #[.int .i64 R.ch.dg, .int .i64 R.ch.tn, .string R.ch.nm, .slice A R.ch.zs.length c, .int .i64 R.ch.wd, .int .i64 R.ch.lf, .int .i64 R.ch.rt, .int .i64 R.ad, .int .i64 R.at_, .int .i64 R.bd, .int .i64 R.bt, .int .i64 R.cd, .int .i64 R.ct, .int .i64 R.dd, .int .i64 R.dt, .int .i64 R.ey, .int .i64 R.bo] := Blk.step hb5 (Blk.step hb4 HB)
  have HI5 := Lib.hid (Ints.step hbel5 hA)
  clear HB HI hb4 hc4 hf4 hz4 hB4 hb5 hc5 hf5 hz5
  go_upto_region 6 with (fail)
  apply wp_region_lit
  refine wpList_load_blk 70 _ _ HB5 Try.underlying70 (by kernel_rfl) rfl rfl rfl ?_
  go_wp2_with fail
  go_at_call 49; refine (toRelease_c _ _ _ hn _ (by repeat (with_reducible first | exact HI5.out | assumption | refine Ints.drew ?_ | refine Ints.drewN _ ?_ | refine Ints.alloc _ ?_ | refine Ints.step (by assumption) ?_))).mono ?_; rintro e w3 ⟨g3, rfl, hg3, hB3, hb3⟩; obtain ⟨hc3, hf3, hz3⟩ := bel hb3; (try simp only [World.size_drew, World.cell?_drew, World.frozen?_drew] at hc3 hf3 hz3); (try simp only [World.heap_drewN, World.cell?_drewN, World.frozen?_drewN] at hc3 hf3 hz3); (try have hl3 : w.heap.size < w3.heap.size := by (have hq := hb3.size; (try simp at hq); omega)); (try have hm3 : w.heap.size + 1 < w3.heap.size := by (have hq := hb3.size; (try simp at hq); omega)); (try have hn3 : w.heap.size + 1 + 1 < w3.heap.size := by (have hq := hb3.size; (try simp at hq); omega)); (try have hp3 : b < w3.heap.size := by (have hq := hb3.size; (try simp at hq); omega)); (try have ho3 : b' < w3.heap.size := by (have hq := hb3.size; (try simp at hq); omega))
  go_upto_region 7 with (refine wpList_store_blk (cs := #[.int .i64 R.ch.dg, .int .i64 R.ch.tn, .string R.ch.nm, .slice (some ⟨g3, 0, none⟩) R.ch.zs.length R.ch.zs.length, .int .i64 R.ch.wd, .int .i64 R.ch.lf, .int .i64 R.ch.rt, .int .i64 R.ad, .int .i64 R.at_, .int .i64 R.bd, .int .i64 R.bt, .int .i64 R.cd, .int .i64 R.ct, .int .i64 R.dd, .int .i64 R.dt, .int .i64 R.ey, .int .i64 R.bo]) 74 _ _ _ (Blk.new _ _ _) (by kernel_rfl) rfl (by simp [Value.oneCell']) rfl rfl rfl rfl ?_)
  rw [World.setRow_alloc_new]
  have hbV : Below w.heap.size w (w3.alloc (.cells #[.int .i64 R.ch.dg, .int .i64 R.ch.tn, .string R.ch.nm, .slice (some ⟨g3, 0, none⟩) R.ch.zs.length R.ch.zs.length, .int .i64 R.ch.wd, .int .i64 R.ch.lf, .int .i64 R.ch.rt, .int .i64 R.ad, .int .i64 R.at_, .int .i64 R.bd, .int .i64 R.bt, .int .i64 R.cd, .int .i64 R.ct, .int .i64 R.dd, .int .i64 R.dt, .int .i64 R.ey, .int .i64 R.bo] 74)) := by repeat (with_reducible first | exact Below.refl _ _ | assumption | refine Bel.alloc ?_ _ | refine Bel.step (by assumption) ?_ | refine Below.drew ?_ | refine Bel.drewN ?_ _ | refine Below.setCell ?_ (by first | exact Nat.le_refl _ | omega | (simp; done) | (simp; omega)) _)
  have HY : Blk (w3.alloc (.cells #[.int .i64 R.ch.dg, .int .i64 R.ch.tn, .string R.ch.nm, .slice (some ⟨g3, 0, none⟩) R.ch.zs.length R.ch.zs.length, .int .i64 R.ch.wd, .int .i64 R.ch.lf, .int .i64 R.ch.rt, .int .i64 R.ad, .int .i64 R.at_, .int .i64 R.bd, .int .i64 R.bt, .int .i64 R.cd, .int .i64 R.ct, .int .i64 R.dd, .int .i64 R.dt, .int .i64 R.ey, .int .i64 R.bo] 74)) w3.heap.size 74 #[.int .i64 R.ch.dg, .int .i64 R.ch.tn, .string R.ch.nm, .slice (some ⟨g3, 0, none⟩) R.ch.zs.length R.ch.zs.length, .int .i64 R.ch.wd, .int .i64 R.ch.lf, .int .i64 R.ch.rt, .int .i64 R.ad, .int .i64 R.at_, .int .i64 R.bd, .int .i64 R.bt, .int .i64 R.cd, .int .i64 R.ct, .int .i64 R.dd, .int .i64 R.dt, .int .i64 R.ey, .int .i64 R.bo] := Blk.new _ _ _
  have HBV : Blk (w3.alloc (.cells #[.int .i64 R.ch.dg, .int .i64 R.ch.tn, .string R.ch.nm, .slice (some ⟨g3, 0, none⟩) R.ch.zs.length R.ch.zs.length, .int .i64 R.ch.wd, .int .i64 R.ch.lf, .int .i64 R.ch.rt, .int .i64 R.ad, .int .i64 R.at_, .int .i64 R.bd, .int .i64 R.bt, .int .i64 R.cd, .int .i64 R.ct, .int .i64 R.dd, .int .i64 R.dt, .int .i64 R.ey, .int .i64 R.bo] 74)) w.heap.size 70 #[.int .i64 R.ch.dg, .int .i64 R.ch.tn, .string R.ch.nm, .slice A R.ch.zs.length c, .int .i64 R.ch.wd, .int .i64 R.ch.lf, .int .i64 R.ch.rt, .int .i64 R.ad, .int .i64 R.at_, .int .i64 R.bd, .int .i64 R.bt, .int .i64 R.cd, .int .i64 R.ct, .int .i64 R.dd, .int .i64 R.dt, .int .i64 R.ey, .int .i64 R.bo] := Blk.alloc _ (Blk.step hb3 HB5)
  have HJV : Hid (Ints (w3.alloc (.cells #[.int .i64 R.ch.dg, .int .i64 R.ch.tn, .string R.ch.nm, .slice (some ⟨g3, 0, none⟩) R.ch.zs.length R.ch.zs.length, .int .i64 R.ch.wd, .int .i64 R.ch.lf, .int .i64 R.ch.rt, .int .i64 R.ad, .int .i64 R.at_, .int .i64 R.bd, .int .i64 R.bt, .int .i64 R.cd, .int .i64 R.ct, .int .i64 R.dd, .int .i64 R.dt, .int .i64 R.ey, .int .i64 R.bo] 74)) (some ⟨g3, 0, none⟩) R.ch.zs) := Ints.alloc _ hB3.ints
  clear hb3 hc3 hf3 hz3 hB3 HB5 HI5 
  generalize w3.alloc (.cells #[.int .i64 R.ch.dg, .int .i64 R.ch.tn, .string R.ch.nm, .slice (some ⟨g3, 0, none⟩) R.ch.zs.length R.ch.zs.length, .int .i64 R.ch.wd, .int .i64 R.ch.lf, .int .i64 R.ch.rt, .int .i64 R.ad, .int .i64 R.at_, .int .i64 R.bd, .int .i64 R.bt, .int .i64 R.cd, .int .i64 R.ct, .int .i64 R.dd, .int .i64 R.dt, .int .i64 R.ey, .int .i64 R.bo] 74) = V at hbV HY HBV HJV  ⊢
  generalize w3.heap.size = Y at HY ⊢
  apply wp_region_lit
  refine wpList_load_blk 74 _ _ HY Try.underlying74 (by kernel_rfl) rfl rfl rfl ?_
  go_wp2_with fail
  go_at_call 53; refine (IsKept_I _ _ _ hn hm _ (by repeat (with_reducible first | exact HJV.out | assumption | refine Ints.drew ?_ | refine Ints.drewN _ ?_ | refine Ints.alloc _ ?_ | refine Ints.step (by assumption) ?_))).mono ?_; rintro e w6 ⟨rfl, hb6⟩; obtain ⟨hc6, hf6, hz6⟩ := bel hb6; (try simp only [World.size_drew, World.cell?_drew, World.frozen?_drew] at hc6 hf6 hz6); (try simp only [World.heap_drewN, World.cell?_drewN, World.frozen?_drewN] at hc6 hf6 hz6); (try have hl6 : w.heap.size < w6.heap.size := by (have hq := hb6.size; (try simp at hq); omega)); (try have hm6 : w.heap.size + 1 < w6.heap.size := by (have hq := hb6.size; (try simp at hq); omega)); (try have hn6 : w.heap.size + 1 + 1 < w6.heap.size := by (have hq := hb6.size; (try simp at hq); omega)); (try have hp6 : b < w6.heap.size := by (have hq := hb6.size; (try simp at hq); omega)); (try have ho6 : b' < w6.heap.size := by (have hq := hb6.size; (try simp at hq); omega))
  have hbel6 : Below w.heap.size w w6 := by repeat (with_reducible first | exact Below.refl _ _ | assumption | refine Bel.alloc ?_ _ | refine Bel.step (by assumption) ?_ | refine Below.drew ?_ | refine Bel.drewN ?_ _ | refine Below.setCell ?_ (by first | exact Nat.le_refl _ | omega | (simp; done) | (simp; omega)) _)
  have HB6 := Blk.step hb6 HBV
  have HY6 := Blk.step hb6 HY
  have HJ6 := Lib.hid (Ints.step hb6 HJV.out)
  have HI6 := Lib.hid (Ints.step hbel6 hA)
  clear hb6 hc6 hf6 hz6 HBV HY HJV hbV
  go_upto_region 10 with (fail)
  refine wp_region_held_drew (S := fun W => Blk W Y 74 #[.int .i64 R.ch.dg, .int .i64 R.ch.tn, .string R.ch.nm, .slice (some ⟨g3, 0, none⟩) R.ch.zs.length R.ch.zs.length, .int .i64 R.ch.wd, .int .i64 R.ch.lf, .int .i64 R.ch.rt, .int .i64 R.ad, .int .i64 R.at_, .int .i64 R.bd, .int .i64 R.bt, .int .i64 R.cd, .int .i64 R.ct, .int .i64 R.dd, .int .i64 R.dt, .int .i64 R.ey, .int .i64 R.bo] ∧ Blk W w.heap.size 70 #[.int .i64 R.ch.dg, .int .i64 R.ch.tn, .string R.ch.nm, .slice A R.ch.zs.length c, .int .i64 R.ch.wd, .int .i64 R.ch.lf, .int .i64 R.ch.rt, .int .i64 R.ad, .int .i64 R.at_, .int .i64 R.bd, .int .i64 R.bt, .int .i64 R.cd, .int .i64 R.ct, .int .i64 R.dd, .int .i64 R.dt, .int .i64 R.ey, .int .i64 R.bo]) (by kernel_rfl) (⟨Blk.drew HY6, Blk.drew HB6⟩) (fun hHeld => ?_)
  have hbA : Below w.heap.size w w6.drew := Below.drew hbel6
  have HIA : Ints w6.drew A R.ch.zs := HI6.out
  have HJA : Ints w6.drew (some ⟨g3, 0, none⟩) R.ch.zs := HJ6.out
  generalize w6.drew = wE at hbA HIA HJA hHeld ⊢
  clear HB6 HY6 HI6 HJ6
  refine wpAnyH_take (i := 0) (v := .agg #[.int .i64 R.ch.dg, .int .i64 R.ch.tn, .string R.ch.nm, .slice (some ⟨g3, 0, none⟩) R.ch.zs.length R.ch.zs.length, .int .i64 R.ch.wd, .int .i64 R.ch.lf, .int .i64 R.ch.rt, .int .i64 R.ad, .int .i64 R.at_, .int .i64 R.bd, .int .i64 R.bt, .int .i64 R.cd, .int .i64 R.ct, .int .i64 R.dd, .int .i64 R.dt, .int .i64 R.ey, .int .i64 R.bo]) rfl (by kernel_rfl) (by kernel_rfl) (by kernel_rfl) (fun _ _ _ h => h) (yieldsIf_load_blk 74 _ (Y) (fun _ h => h.1) Try.underlying74 (by kernel_rfl) (by rfl) rfl rfl) hHeld ?_
  try simp only [Act.put, List.setIfInBounds_toArray, List.set_cons_zero, List.set_cons_succ]
  refine wpAnyH_take (i := 1) (v := .agg #[.int .i64 R.ch.dg, .int .i64 R.ch.tn, .string R.ch.nm, .slice A R.ch.zs.length c, .int .i64 R.ch.wd, .int .i64 R.ch.lf, .int .i64 R.ch.rt, .int .i64 R.ad, .int .i64 R.at_, .int .i64 R.bd, .int .i64 R.bt, .int .i64 R.cd, .int .i64 R.ct, .int .i64 R.dd, .int .i64 R.dt, .int .i64 R.ey, .int .i64 R.bo]) rfl (by kernel_rfl) (by kernel_rfl) (by kernel_rfl) (fun _ _ _ h => h) (yieldsIf_load_blk 70 _ (w.heap.size) (fun _ h => h.2) Try.underlying70 (by kernel_rfl) (by rfl) rfl rfl) hHeld ?_
  try simp only [Act.put, List.setIfInBounds_toArray, List.set_cons_zero, List.set_cons_succ]
  refine wpAnyH_ready (rs := [2]) (by kernel_rfl) (by simp) ?_
  refine AllReadyH.cons rfl (fun K hK => ?_) AllReadyH.nil
  go_simp
  go_at_call 49; refine (toRelease_c _ _ _ hn _ HIA).mono ?_; rintro e w7 ⟨g7, rfl, hg7, hB7, hb7⟩; obtain ⟨hc7, hf7, hz7⟩ := bel hb7; (try simp only [World.size_drew, World.cell?_drew, World.frozen?_drew] at hc7 hf7 hz7); (try simp only [World.heap_drewN, World.cell?_drewN, World.frozen?_drewN] at hc7 hf7 hz7); (try have hl7 : w.heap.size < w7.heap.size := by (have hq := hb7.size; (try simp at hq); omega)); (try have hm7 : w.heap.size + 1 < w7.heap.size := by (have hq := hb7.size; (try simp at hq); omega)); (try have hn7 : w.heap.size + 1 + 1 < w7.heap.size := by (have hq := hb7.size; (try simp at hq); omega)); (try have hp7 : b < w7.heap.size := by (have hq := hb7.size; (try simp at hq); omega)); (try have ho7 : b' < w7.heap.size := by (have hq := hb7.size; (try simp at hq); omega))
  go_wp2_with fail
  refine hK.out _ _ (⟨Blk.step hb7 hHeld.1, Blk.step hb7 hHeld.2⟩) (fun hHeld => ?_)
  clear hK K
  try simp only [Act.put, List.setIfInBounds_toArray, List.set_cons_zero, List.set_cons_succ]
  have hbel7 := Bel.step hb7 hbA
  have HJ7 := Ints.step hb7 HJA
  have HK7 := hB7.ints
  clear hb7 hc7 hf7 hz7 hB7 hg7
  refine wpAnyH_ready (rs := [3]) (by kernel_rfl) (by simp) ?_
  refine AllReadyH.cons rfl (fun K hK => ?_) AllReadyH.nil
  go_simp
  go_at_call 51; refine (eqRelease_c _ _ _ _ _ hn _ HJ7 HK7).mono ?_; rintro e w8 ⟨rfl, hb8⟩; obtain ⟨hc8, hf8, hz8⟩ := bel hb8; (try simp only [World.size_drew, World.cell?_drew, World.frozen?_drew] at hc8 hf8 hz8); (try simp only [World.heap_drewN, World.cell?_drewN, World.frozen?_drewN] at hc8 hf8 hz8); (try have hl8 : w.heap.size < w8.heap.size := by (have hq := hb8.size; (try simp at hq); omega)); (try have hm8 : w.heap.size + 1 < w8.heap.size := by (have hq := hb8.size; (try simp at hq); omega)); (try have hn8 : w.heap.size + 1 + 1 < w8.heap.size := by (have hq := hb8.size; (try simp at hq); omega)); (try have hp8 : b < w8.heap.size := by (have hq := hb8.size; (try simp at hq); omega)); (try have ho8 : b' < w8.heap.size := by (have hq := hb8.size; (try simp at hq); omega))
  go_wp2_with fail
  refine hK.out _ _ (⟨Blk.step hb8 hHeld.1, Blk.step hb8 hHeld.2⟩) (fun hHeld => ?_)
  clear hK K
  try simp only [Act.put, List.setIfInBounds_toArray, List.set_cons_zero, List.set_cons_succ]
  have hbel8 := Bel.step hb8 hbel7
  clear hb8 hc8 hf8 hz8
  refine wpAnyH_take (i := 4) (v := (.bool false)) rfl (by kernel_rfl) (by kernel_rfl) (by kernel_rfl) (fun _ _ _ h => h) (Or.inl ⟨by rfl, fun w _ => by simp [go_sem, execOp]⟩) hHeld ?_
  try simp only [Act.put, List.setIfInBounds_toArray, List.set_cons_zero, List.set_cons_succ]
  refine wpAnyH_done (by kernel_rfl) ?_ _
  go_wp2
  go_ret
  exact ⟨rfl, hbel8⟩
end Go.Proofs.Yteldaadpcponfaa
