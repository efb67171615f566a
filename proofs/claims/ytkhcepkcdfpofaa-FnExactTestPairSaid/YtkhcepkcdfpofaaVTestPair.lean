/- The statement FnExactTestPair, walked. No conditions. -/
import Derived.Test.YtkhcepkcdfpofaaProg
import Derived.Test.YtkhcepkcdfpofaaBase
import Derived.Test.YtkhcepkcdfpofaaRw
import Derived.Test.YtkhcepkcdfpofaaL01
import Derived.Test.YtkhcepkcdfpofaaCp
import Derived.Test.YtkhcepkcdfpofaaCh
import Derived.Test.YtkhcepkcdfpofaaL18
import Derived.Test.YtkhcepkcdfpofaaW23
import Derived.Test.YtkhcepkcdfpofaaRw
import Derived.Test.YtkhcepkcdfpofaaL18c
import Derived.Test.YtkhcepkcdfpofaaL23
import Derived.Test.YtkhcepkcdfpofaaL03
import Derived.Test.YtkhcepkcdfpofaaL23d
import Derived.Test.YtkhcepkcdfpofaaL23e
import Derived.Test.YtkhcepkcdfpofaaL23f
import Derived.Test.YtkhcepkcdfpofaaL24
import Derived.Test.YtkhcepkcdfpofaaL24b
import Derived.Test.YtkhcepkcdfpofaaL23g
import Derived.Test.YtkhcepkcdfpofaaL23h
import Derived.Test.YtkhcepkcdfpofaaL27o
import Derived.Test.YtkhcepkcdfpofaaL27a
import Derived.Test.YtkhcepkcdfpofaaL27b
import Derived.Test.YtkhcepkcdfpofaaRg
import Derived.Test.YtkhcepkcdfpofaaL04
import Derived.Test.YtkhcepkcdfpofaaL24c
import Derived.Test.YtkhcepkcdfpofaaL24d
import Derived.Test.YtkhcepkcdfpofaaL24f
import Derived.Test.YtkhcepkcdfpofaaL24g
import Derived.Test.YtkhcepkcdfpofaaL24r
import Derived.Test.YtkhcepkcdfpofaaL27c
import Derived.Test.YtkhcepkcdfpofaaL27m
import Derived.Test.YtkhcepkcdfpofaaL27t
import Derived.WalkKit
import Derived.WalkSpells
import Derived.WalkLawsBesides
import Derived.Lib.Hide
import Derived.Deep.QuietTactic
import Derived.BigQuiet
import Derived.Deep.Draws
import Derived.Deep.RegionHeld3
import Derived.Deep.Cut
import Derived.Deep.WholeRow
namespace Go.Proofs.Ytkhcepkcdfpofaa
open Go.RowKit
set_option linter.unusedVariables false
set_option maxRecDepth 50000 in
set_option maxHeartbeats 2000000 in
theorem FnExactTestPair_w (w : World) (R : Re) (A : Option Addr) (c : Nat) (hl : R.ch.zs.length ≤ 9223372036854775807) (hA : Ints w A R.ch.zs) (hs : R.ch.nm.size ≤ 9223372036854775807) (ud ut : Int) (gud : (Lit.int .i64 ud).wf = true) (gut : (Lit.int .i64 ut).wf = true) (vd vt : Int) (gvd : (Lit.int .i64 vd).wf = true) (gvt : (Lit.int .i64 vt).wf = true) :
    Calls Try.prog 9 #[.agg #[.int .i64 R.ch.dg, .int .i64 R.ch.tn, .string R.ch.nm, .slice A R.ch.zs.length c, .int .i64 R.ch.wd, .int .i64 R.ch.lf, .int .i64 R.ch.rt, .int .i64 R.ad, .int .i64 R.at_, .int .i64 R.bd, .int .i64 R.bt, .int .i64 R.cd, .int .i64 R.ct, .int .i64 R.dd, .int .i64 R.dt, .int .i64 R.ey, .int .i64 R.bo], .agg #[.int .i64 ud, .int .i64 ut], .agg #[.int .i64 vd, .int .i64 vt]] w fun e w' => e = .returned (.bool true) ∧ Below w.heap.size w w' := by
  by_cases hz : R.ch.nm.size + R.ch.zs.length ≤ 1048576
  rotate_left
  · have HZ := Lib.hid (sz2_no hz)
    go_enter Try.func9, Try.ntmps9
    go_wp2_with fail
    go_at_call 27; refine (szRelease_c _ _ _ _ (by omega) (by omega) (by assumption) (by assumption) _).mono ?_; rintro e w1 ⟨rfl, hb1⟩; obtain ⟨hc1, hf1, hz1⟩ := bel hb1; (try simp only [World.size_drew, World.cell?_drew, World.frozen?_drew] at hc1 hf1 hz1); (try simp only [World.heap_drewN, World.cell?_drewN, World.frozen?_drewN] at hc1 hf1 hz1); (try have hl1 : w.heap.size < w1.heap.size := by (have hq := hb1.size; (try simp at hq); omega)); (try have hm1 : w.heap.size + 1 < w1.heap.size := by (have hq := hb1.size; (try simp at hq); omega)); (try have hn1 : w.heap.size + 1 + 1 < w1.heap.size := by (have hq := hb1.size; (try simp at hq); omega)); (try have hp1 : b < w1.heap.size := by (have hq := hb1.size; (try simp at hq); omega)); (try have ho1 : b' < w1.heap.size := by (have hq := hb1.size; (try simp at hq); omega))
    rw [HZ.out]
    go_wp2
    go_ret
    exact ⟨rfl, by repeat (with_reducible first | exact Below.refl _ _ | assumption | refine Bel.alloc ?_ _ | refine Bel.step (by assumption) ?_ | refine Below.drew ?_ | refine Bel.drewN ?_ _ | refine Below.setCell ?_ (by first | exact Nat.le_refl _ | omega | (simp; done) | (simp; omega)) _)⟩
  have HZ := Lib.hid (sz2_ok hz)
  have hn : R.ch.zs.length ≤ 1048576 := by omega
  have hm : R.ch.nm.size ≤ 1048576 := by omega
  have hn0 : (0 : Int) ≤ 1048576 - R.ch.nm.size - R.ch.zs.length := by omega
  clear hz
  go_enter Try.func9, Try.ntmps9
  go_wp2_with fail
  go_at_call 27; refine (szRelease_c _ _ _ _ (by omega) (by omega) (by assumption) (by assumption) _).mono ?_; rintro e w1 ⟨rfl, hb1⟩; obtain ⟨hc1, hf1, hz1⟩ := bel hb1; (try simp only [World.size_drew, World.cell?_drew, World.frozen?_drew] at hc1 hf1 hz1); (try simp only [World.heap_drewN, World.cell?_drewN, World.frozen?_drewN] at hc1 hf1 hz1); (try have hl1 : w.heap.size < w1.heap.size := by (have hq := hb1.size; (try simp at hq); omega)); (try have hm1 : w.heap.size + 1 < w1.heap.size := by (have hq := hb1.size; (try simp at hq); omega)); (try have hn1 : w.heap.size + 1 + 1 < w1.heap.size := by (have hq := hb1.size; (try simp at hq); omega)); (try have hp1 : b < w1.heap.size := by (have hq := hb1.size; (try simp at hq); omega)); (try have ho1 : b' < w1.heap.size := by (have hq := hb1.size; (try simp at hq); omega))
  rw [HZ.out]
  have hbel1 : Below w.heap.size w w1 := by repeat (with_reducible first | exact Below.refl _ _ | assumption | refine Bel.alloc ?_ _ | refine Bel.step (by assumption) ?_ | refine Below.drew ?_ | refine Bel.drewN ?_ _ | refine Below.setCell ?_ (by first | exact Nat.le_refl _ | omega | (simp; done) | (simp; omega)) _)
  have HB : Blk w1 w.heap.size 52 #[.int .i64 R.ch.dg, .int .i64 R.ch.tn, .string R.ch.nm, .slice A R.ch.zs.length c, .int .i64 R.ch.wd, .int .i64 R.ch.lf, .int .i64 R.ch.rt, .int .i64 R.ad, .int .i64 R.at_, .int .i64 R.bd, .int .i64 R.bt, .int .i64 R.cd, .int .i64 R.ct, .int .i64 R.dd, .int .i64 R.dt, .int .i64 R.ey, .int .i64 R.bo] := Blk.step hb1 (Blk.alloc _ (Blk.alloc _ (Blk.new _ _ _)))
  have Hu : Blk w1 (w.heap.size + 1) 23 #[.int .i64 ud, .int .i64 ut] := Blk.step hb1 (Blk.alloc _ (by have h := Blk.new (w.alloc (.cells #[.int .i64 R.ch.dg, .int .i64 R.ch.tn, .string R.ch.nm, .slice A R.ch.zs.length c, .int .i64 R.ch.wd, .int .i64 R.ch.lf, .int .i64 R.ch.rt, .int .i64 R.ad, .int .i64 R.at_, .int .i64 R.bd, .int .i64 R.bt, .int .i64 R.cd, .int .i64 R.ct, .int .i64 R.dd, .int .i64 R.dt, .int .i64 R.ey, .int .i64 R.bo] 52)) 23 #[.int .i64 ud, .int .i64 ut]; simp only [World.size_alloc] at h; exact h))
  have Hv : Blk w1 (w.heap.size + 1 + 1) 23 #[.int .i64 vd, .int .i64 vt] := Blk.step hb1 (by have h := Blk.new ((w.alloc (.cells #[.int .i64 R.ch.dg, .int .i64 R.ch.tn, .string R.ch.nm, .slice A R.ch.zs.length c, .int .i64 R.ch.wd, .int .i64 R.ch.lf, .int .i64 R.ch.rt, .int .i64 R.ad, .int .i64 R.at_, .int .i64 R.bd, .int .i64 R.bt, .int .i64 R.cd, .int .i64 R.ct, .int .i64 R.dd, .int .i64 R.dt, .int .i64 R.ey, .int .i64 R.bo] 52)).alloc (.cells #[.int .i64 ud, .int .i64 ut] 23)) 23 #[.int .i64 vd, .int .i64 vt]; simp only [World.size_alloc] at h; exact h)
  have HI := Lib.hid (Ints.step hbel1 hA)
  clear hb1 hc1 hf1 hz1
  go_upto_region 5 with (fail)
  refine wp_region_held_drew (S := fun W => Blk W w.heap.size 52 #[.int .i64 R.ch.dg, .int .i64 R.ch.tn, .string R.ch.nm, .slice A R.ch.zs.length c, .int .i64 R.ch.wd, .int .i64 R.ch.lf, .int .i64 R.ch.rt, .int .i64 R.ad, .int .i64 R.at_, .int .i64 R.bd, .int .i64 R.bt, .int .i64 R.cd, .int .i64 R.ct, .int .i64 R.dd, .int .i64 R.dt, .int .i64 R.ey, .int .i64 R.bo] ∧ Blk W (w.heap.size + 1) 23 #[.int .i64 ud, .int .i64 ut] ∧ Blk W (w.heap.size + 1 + 1) 23 #[.int .i64 vd, .int .i64 vt]) (by kernel_rfl) (⟨Blk.drew HB, Blk.drew Hu, Blk.drew Hv⟩) (fun hHeld => ?_)
  have hbA : Below w.heap.size w w1.drew := Below.drew hbel1
  have HIA : Ints w1.drew A R.ch.zs := HI.out
  generalize w1.drew = wA at hbA HIA hHeld ⊢
  clear HB HI Hu Hv
  refine wpAnyH_take (i := 0) (v := .agg #[.int .i64 R.ch.dg, .int .i64 R.ch.tn, .string R.ch.nm, .slice A R.ch.zs.length c, .int .i64 R.ch.wd, .int .i64 R.ch.lf, .int .i64 R.ch.rt, .int .i64 R.ad, .int .i64 R.at_, .int .i64 R.bd, .int .i64 R.bt, .int .i64 R.cd, .int .i64 R.ct, .int .i64 R.dd, .int .i64 R.dt, .int .i64 R.ey, .int .i64 R.bo]) rfl (by kernel_rfl) (by kernel_rfl) (by kernel_rfl) (fun _ _ _ h => h) (yieldsIf_load_blk 52 _ (w.heap.size) (fun _ h => h.1) Try.underlying52 (by kernel_rfl) (by rfl) rfl rfl) hHeld ?_
  try simp only [Act.put, List.setIfInBounds_toArray, List.set_cons_zero, List.set_cons_succ]
  refine wpAnyH_take (i := 2) (v := .agg #[.int .i64 ud, .int .i64 ut]) rfl (by kernel_rfl) (by kernel_rfl) (by kernel_rfl) (fun _ _ _ h => h) (yieldsIf_load_blk 23 _ (w.heap.size + 1) (fun _ h => h.2.1) Try.underlying23 (by kernel_rfl) (by rfl) rfl rfl) hHeld ?_
  try simp only [Act.put, List.setIfInBounds_toArray, List.set_cons_zero, List.set_cons_succ]
  refine wpAnyH_take (i := 4) (v := .agg #[.int .i64 vd, .int .i64 vt]) rfl (by kernel_rfl) (by kernel_rfl) (by kernel_rfl) (fun _ _ _ h => h) (yieldsIf_load_blk 23 _ (w.heap.size + 1 + 1) (fun _ h => h.2.2) Try.underlying23 (by kernel_rfl) (by rfl) rfl rfl) hHeld ?_
  try simp only [Act.put, List.setIfInBounds_toArray, List.set_cons_zero, List.set_cons_succ]
  refine wpAnyH_ready (rs := [1]) (by kernel_rfl) (by simp) ?_
  refine AllReadyH.cons rfl (fun K hK => ?_) AllReadyH.nil
  go_simp
  go_at_call 29; refine (toRelease_c _ _ _ hn _ HIA).mono ?_; rintro e w4 ⟨g4, rfl, hg4, hB4, hb4⟩; obtain ⟨hc4, hf4, hz4⟩ := bel hb4; (try simp only [World.size_drew, World.cell?_drew, World.frozen?_drew] at hc4 hf4 hz4); (try simp only [World.heap_drewN, World.cell?_drewN, World.frozen?_drewN] at hc4 hf4 hz4); (try have hl4 : w.heap.size < w4.heap.size := by (have hq := hb4.size; (try simp at hq); omega)); (try have hm4 : w.heap.size + 1 < w4.heap.size := by (have hq := hb4.size; (try simp at hq); omega)); (try have hn4 : w.heap.size + 1 + 1 < w4.heap.size := by (have hq := hb4.size; (try simp at hq); omega)); (try have hp4 : b < w4.heap.size := by (have hq := hb4.size; (try simp at hq); omega)); (try have ho4 : b' < w4.heap.size := by (have hq := hb4.size; (try simp at hq); omega))
  go_wp2_with fail
  refine hK.out _ _ (⟨Blk.step hb4 hHeld.1, Blk.step hb4 hHeld.2.1, Blk.step hb4 hHeld.2.2⟩) (fun hHeld => ?_)
  clear hK K
  try simp only [Act.put, List.setIfInBounds_toArray, List.set_cons_zero, List.set_cons_succ]
  have hbel4 := Bel.step hb4 hbA
  have HJ := hB4.ints
  clear hb4 hc4 hf4 hz4 hB4 HIA hbA
  refine wpAnyH_ready (rs := [3]) (by kernel_rfl) (by simp) ?_
  refine AllReadyH.cons rfl (fun K hK => ?_) AllReadyH.nil
  go_simp
  go_at_call 30; refine (toFigure_c ud ut _).mono ?_; rintro e w20 ⟨rfl, hb20⟩; obtain ⟨hc20, hf20, hz20⟩ := bel hb20; (try simp only [World.size_drew, World.cell?_drew, World.frozen?_drew] at hc20 hf20 hz20); (try simp only [World.heap_drewN, World.cell?_drewN, World.frozen?_drewN] at hc20 hf20 hz20); (try have hl20 : w.heap.size < w20.heap.size := by (have hq := hb20.size; (try simp at hq); omega)); (try have hm20 : w.heap.size + 1 < w20.heap.size := by (have hq := hb20.size; (try simp at hq); omega)); (try have hn20 : w.heap.size + 1 + 1 < w20.heap.size := by (have hq := hb20.size; (try simp at hq); omega)); (try have hp20 : b < w20.heap.size := by (have hq := hb20.size; (try simp at hq); omega)); (try have ho20 : b' < w20.heap.size := by (have hq := hb20.size; (try simp at hq); omega))
  go_wp2_with fail
  refine hK.out _ _ (⟨Blk.step hb20 hHeld.1, Blk.step hb20 hHeld.2.1, Blk.step hb20 hHeld.2.2⟩) (fun hHeld => ?_)
  clear hK K
  try simp only [Act.put, List.setIfInBounds_toArray, List.set_cons_zero, List.set_cons_succ]
  have hbel20 := Bel.step hb20 hbel4
  have HJ := Ints.step hb20 HJ
  clear hb20 hc20 hf20 hz20
  refine wpAnyH_ready (rs := [5]) (by kernel_rfl) (by simp) ?_
  refine AllReadyH.cons rfl (fun K hK => ?_) AllReadyH.nil
  go_simp
  go_at_call 30; refine (toFigure_c vd vt _).mono ?_; rintro e w21 ⟨rfl, hb21⟩; obtain ⟨hc21, hf21, hz21⟩ := bel hb21; (try simp only [World.size_drew, World.cell?_drew, World.frozen?_drew] at hc21 hf21 hz21); (try simp only [World.heap_drewN, World.cell?_drewN, World.frozen?_drewN] at hc21 hf21 hz21); (try have hl21 : w.heap.size < w21.heap.size := by (have hq := hb21.size; (try simp at hq); omega)); (try have hm21 : w.heap.size + 1 < w21.heap.size := by (have hq := hb21.size; (try simp at hq); omega)); (try have hn21 : w.heap.size + 1 + 1 < w21.heap.size := by (have hq := hb21.size; (try simp at hq); omega)); (try have hp21 : b < w21.heap.size := by (have hq := hb21.size; (try simp at hq); omega)); (try have ho21 : b' < w21.heap.size := by (have hq := hb21.size; (try simp at hq); omega))
  go_wp2_with fail
  refine hK.out _ _ (⟨Blk.step hb21 hHeld.1, Blk.step hb21 hHeld.2.1, Blk.step hb21 hHeld.2.2⟩) (fun hHeld => ?_)
  clear hK K
  try simp only [Act.put, List.setIfInBounds_toArray, List.set_cons_zero, List.set_cons_succ]
  have hbel21 := Bel.step hb21 hbel20
  have HJ := Ints.step hb21 HJ
  clear hb21 hc21 hf21 hz21
  refine wpAnyH_ready (rs := [6]) (by kernel_rfl) (by simp) ?_
  refine AllReadyH.cons rfl (fun K hK => ?_) AllReadyH.nil
  go_simp
  go_at_call 37; refine (TestPair_S _ _ _ _ _ _ _ hn hm _ HJ).mono ?_; rintro e w5 ⟨rfl, hb5⟩; obtain ⟨hc5, hf5, hz5⟩ := bel hb5; (try simp only [World.size_drew, World.cell?_drew, World.frozen?_drew] at hc5 hf5 hz5); (try simp only [World.heap_drewN, World.cell?_drewN, World.frozen?_drewN] at hc5 hf5 hz5); (try have hl5 : w.heap.size < w5.heap.size := by (have hq := hb5.size; (try simp at hq); omega)); (try have hm5 : w.heap.size + 1 < w5.heap.size := by (have hq := hb5.size; (try simp at hq); omega)); (try have hn5 : w.heap.size + 1 + 1 < w5.heap.size := by (have hq := hb5.size; (try simp at hq); omega)); (try have hp5 : b < w5.heap.size := by (have hq := hb5.size; (try simp at hq); omega)); (try have ho5 : b' < w5.heap.size := by (have hq := hb5.size; (try simp at hq); omega))
  go_wp2_with fail
  refine hK.out _ _ (⟨Blk.step hb5 hHeld.1, Blk.step hb5 hHeld.2.1, Blk.step hb5 hHeld.2.2⟩) (fun hHeld => ?_)
  clear hK K
  try simp only [Act.put, List.setIfInBounds_toArray, List.set_cons_zero, List.set_cons_succ]
  have hbel5 := Bel.step hb5 hbel21
  have HI5 := Lib.hid (Ints.step hbel5 hA)
  clear hb5 hc5 hf5 hz5 HJ
  refine wpAnyH_take (i := 7) (v := (.tuple #[.bool (tpB R ud ut vd vt), .int .i64 (tpC R ud ut vd vt)])) rfl (by kernel_rfl) (by kernel_rfl) (by kernel_rfl) (fun _ _ _ h => h) (Or.inl ⟨by rfl, fun w _ => by simp [go_sem, execOp]⟩) hHeld ?_
  try simp only [Act.put, List.setIfInBounds_toArray, List.set_cons_zero, List.set_cons_succ]
  refine wpAnyH_take (i := 8) (v := (.bool (tpB R ud ut vd vt))) rfl (by kernel_rfl) (by kernel_rfl) (by kernel_rfl) (fun _ _ _ h => h) (Or.inl ⟨by rfl, fun w _ => by simp [go_sem, execOp]⟩) hHeld ?_
  try simp only [Act.put, List.setIfInBounds_toArray, List.set_cons_zero, List.set_cons_succ]
  refine wpAnyH_take (i := 9) (v := (.int .i64 (tpC R ud ut vd vt))) rfl (by kernel_rfl) (by kernel_rfl) (by kernel_rfl) (fun _ _ _ h => h) (Or.inl ⟨by rfl, fun w _ => by simp [go_sem, execOp]⟩) hHeld ?_
  try simp only [Act.put, List.setIfInBounds_toArray, List.set_cons_zero, List.set_cons_succ]
  refine wpAnyH_take (i := 10) (v := (.bool (tpB R ud ut vd vt))) rfl (by kernel_rfl) (by kernel_rfl) (by kernel_rfl) (fun _ _ _ h => h) (Or.inl ⟨by rfl, fun w _ => by simp [go_sem, execOp]⟩) hHeld ?_
  try simp only [Act.put, List.setIfInBounds_toArray, List.set_cons_zero, List.set_cons_succ]
  refine wpAnyH_take (i := 11) (v := (.int .i64 (tpC R ud ut vd vt))) rfl (by kernel_rfl) (by kernel_rfl) (by kernel_rfl) (fun _ _ _ h => h) (Or.inl ⟨by rfl, fun w _ => by simp [go_sem, execOp]⟩) hHeld ?_
  try simp only [Act.put, List.setIfInBounds_toArray, List.set_cons_zero, List.set_cons_succ]
  refine wpAnyH_done (by kernel_rfl) ?_ _
  obtain ⟨HB5, Hu5, Hv5⟩ := hHeld
  go_upto_region 6 with (fail)
  apply wp_region_lit
  refine wpList_load_blk 52 _ _ HB5 Try.underlying52 (by kernel_rfl) rfl rfl rfl ?_
  go_wp2_with fail
  go_at_call 29; refine (toRelease_c _ _ _ hn _ (by repeat (with_reducible first | exact HI5.out | assumption | refine Ints.drew ?_ | refine Ints.drewN _ ?_ | refine Ints.alloc _ ?_ | refine Ints.step (by assumption) ?_))).mono ?_; rintro e w3 ⟨g3, rfl, hg3, hB3, hb3⟩; obtain ⟨hc3, hf3, hz3⟩ := bel hb3; (try simp only [World.size_drew, World.cell?_drew, World.frozen?_drew] at hc3 hf3 hz3); (try simp only [World.heap_drewN, World.cell?_drewN, World.frozen?_drewN] at hc3 hf3 hz3); (try have hl3 : w.heap.size < w3.heap.size := by (have hq := hb3.size; (try simp at hq); omega)); (try have hm3 : w.heap.size + 1 < w3.heap.size := by (have hq := hb3.size; (try simp at hq); omega)); (try have hn3 : w.heap.size + 1 + 1 < w3.heap.size := by (have hq := hb3.size; (try simp at hq); omega)); (try have hp3 : b < w3.heap.size := by (have hq := hb3.size; (try simp at hq); omega)); (try have ho3 : b' < w3.heap.size := by (have hq := hb3.size; (try simp at hq); omega))
  go_upto_region 7 with (refine wpList_store_blk (cs := #[.int .i64 R.ch.dg, .int .i64 R.ch.tn, .string R.ch.nm, .slice (some ⟨g3, 0, none⟩) R.ch.zs.length R.ch.zs.length, .int .i64 R.ch.wd, .int .i64 R.ch.lf, .int .i64 R.ch.rt, .int .i64 R.ad, .int .i64 R.at_, .int .i64 R.bd, .int .i64 R.bt, .int .i64 R.cd, .int .i64 R.ct, .int .i64 R.dd, .int .i64 R.dt, .int .i64 R.ey, .int .i64 R.bo]) 55 _ _ _ (Blk.new _ _ _) (by kernel_rfl) rfl (by simp [Value.oneCell']) rfl rfl rfl rfl ?_)
  rw [World.setRow_alloc_new]
  have hbV : Below w.heap.size w (w3.alloc (.cells #[.int .i64 R.ch.dg, .int .i64 R.ch.tn, .string R.ch.nm, .slice (some ⟨g3, 0, none⟩) R.ch.zs.length R.ch.zs.length, .int .i64 R.ch.wd, .int .i64 R.ch.lf, .int .i64 R.ch.rt, .int .i64 R.ad, .int .i64 R.at_, .int .i64 R.bd, .int .i64 R.bt, .int .i64 R.cd, .int .i64 R.ct, .int .i64 R.dd, .int .i64 R.dt, .int .i64 R.ey, .int .i64 R.bo] 55)) := by repeat (with_reducible first | exact Below.refl _ _ | assumption | refine Bel.alloc ?_ _ | refine Bel.step (by assumption) ?_ | refine Below.drew ?_ | refine Bel.drewN ?_ _ | refine Below.setCell ?_ (by first | exact Nat.le_refl _ | omega | (simp; done) | (simp; omega)) _)
  have HY : Blk (w3.alloc (.cells #[.int .i64 R.ch.dg, .int .i64 R.ch.tn, .string R.ch.nm, .slice (some ⟨g3, 0, none⟩) R.ch.zs.length R.ch.zs.length, .int .i64 R.ch.wd, .int .i64 R.ch.lf, .int .i64 R.ch.rt, .int .i64 R.ad, .int .i64 R.at_, .int .i64 R.bd, .int .i64 R.bt, .int .i64 R.cd, .int .i64 R.ct, .int .i64 R.dd, .int .i64 R.dt, .int .i64 R.ey, .int .i64 R.bo] 55)) w3.heap.size 55 #[.int .i64 R.ch.dg, .int .i64 R.ch.tn, .string R.ch.nm, .slice (some ⟨g3, 0, none⟩) R.ch.zs.length R.ch.zs.length, .int .i64 R.ch.wd, .int .i64 R.ch.lf, .int .i64 R.ch.rt, .int .i64 R.ad, .int .i64 R.at_, .int .i64 R.bd, .int .i64 R.bt, .int .i64 R.cd, .int .i64 R.ct, .int .i64 R.dd, .int .i64 R.dt, .int .i64 R.ey, .int .i64 R.bo] := Blk.new _ _ _
  have HBV : Blk (w3.alloc (.cells #[.int .i64 R.ch.dg, .int .i64 R.ch.tn, .string R.ch.nm, .slice (some ⟨g3, 0, none⟩) R.ch.zs.length R.ch.zs.length, .int .i64 R.ch.wd, .int .i64 R.ch.lf, .int .i64 R.ch.rt, .int .i64 R.ad, .int .i64 R.at_, .int .i64 R.bd, .int .i64 R.bt, .int .i64 R.cd, .int .i64 R.ct, .int .i64 R.dd, .int .i64 R.dt, .int .i64 R.ey, .int .i64 R.bo] 55)) w.heap.size 52 #[.int .i64 R.ch.dg, .int .i64 R.ch.tn, .string R.ch.nm, .slice A R.ch.zs.length c, .int .i64 R.ch.wd, .int .i64 R.ch.lf, .int .i64 R.ch.rt, .int .i64 R.ad, .int .i64 R.at_, .int .i64 R.bd, .int .i64 R.bt, .int .i64 R.cd, .int .i64 R.ct, .int .i64 R.dd, .int .i64 R.dt, .int .i64 R.ey, .int .i64 R.bo] := Blk.alloc _ (Blk.step hb3 HB5)
  have HuV : Blk (w3.alloc (.cells #[.int .i64 R.ch.dg, .int .i64 R.ch.tn, .string R.ch.nm, .slice (some ⟨g3, 0, none⟩) R.ch.zs.length R.ch.zs.length, .int .i64 R.ch.wd, .int .i64 R.ch.lf, .int .i64 R.ch.rt, .int .i64 R.ad, .int .i64 R.at_, .int .i64 R.bd, .int .i64 R.bt, .int .i64 R.cd, .int .i64 R.ct, .int .i64 R.dd, .int .i64 R.dt, .int .i64 R.ey, .int .i64 R.bo] 55)) (w.heap.size + 1) 23 #[.int .i64 ud, .int .i64 ut] := Blk.alloc _ (Blk.step hb3 Hu5)
  have HvV : Blk (w3.alloc (.cells #[.int .i64 R.ch.dg, .int .i64 R.ch.tn, .string R.ch.nm, .slice (some ⟨g3, 0, none⟩) R.ch.zs.length R.ch.zs.length, .int .i64 R.ch.wd, .int .i64 R.ch.lf, .int .i64 R.ch.rt, .int .i64 R.ad, .int .i64 R.at_, .int .i64 R.bd, .int .i64 R.bt, .int .i64 R.cd, .int .i64 R.ct, .int .i64 R.dd, .int .i64 R.dt, .int .i64 R.ey, .int .i64 R.bo] 55)) (w.heap.size + 1 + 1) 23 #[.int .i64 vd, .int .i64 vt] := Blk.alloc _ (Blk.step hb3 Hv5)
  have HJV : Hid (Ints (w3.alloc (.cells #[.int .i64 R.ch.dg, .int .i64 R.ch.tn, .string R.ch.nm, .slice (some ⟨g3, 0, none⟩) R.ch.zs.length R.ch.zs.length, .int .i64 R.ch.wd, .int .i64 R.ch.lf, .int .i64 R.ch.rt, .int .i64 R.ad, .int .i64 R.at_, .int .i64 R.bd, .int .i64 R.bt, .int .i64 R.cd, .int .i64 R.ct, .int .i64 R.dd, .int .i64 R.dt, .int .i64 R.ey, .int .i64 R.bo] 55)) (some ⟨g3, 0, none⟩) R.ch.zs) := Ints.alloc _ hB3.ints
  clear hb3 hc3 hf3 hz3 hB3 HB5 HI5 Hu5 Hv5
  generalize w3.alloc (.cells #[.int .i64 R.ch.dg, .int .i64 R.ch.tn, .string R.ch.nm, .slice (some ⟨g3, 0, none⟩) R.ch.zs.length R.ch.zs.length, .int .i64 R.ch.wd, .int .i64 R.ch.lf, .int .i64 R.ch.rt, .int .i64 R.ad, .int .i64 R.at_, .int .i64 R.bd, .int .i64 R.bt, .int .i64 R.cd, .int .i64 R.ct, .int .i64 R.dd, .int .i64 R.dt, .int .i64 R.ey, .int .i64 R.bo] 55) = V at hbV HY HBV HJV HuV HvV ⊢
  generalize w3.heap.size = Y at HY ⊢
  refine wp_region_held_drew (S := fun W => Blk W w.heap.size 52 #[.int .i64 R.ch.dg, .int .i64 R.ch.tn, .string R.ch.nm, .slice A R.ch.zs.length c, .int .i64 R.ch.wd, .int .i64 R.ch.lf, .int .i64 R.ch.rt, .int .i64 R.ad, .int .i64 R.at_, .int .i64 R.bd, .int .i64 R.bt, .int .i64 R.cd, .int .i64 R.ct, .int .i64 R.dd, .int .i64 R.dt, .int .i64 R.ey, .int .i64 R.bo] ∧ Blk W (w.heap.size + 1) 23 #[.int .i64 ud, .int .i64 ut] ∧ Blk W (w.heap.size + 1 + 1) 23 #[.int .i64 vd, .int .i64 vt] ∧ Blk W Y 55 #[.int .i64 R.ch.dg, .int .i64 R.ch.tn, .string R.ch.nm, .slice (some ⟨g3, 0, none⟩) R.ch.zs.length R.ch.zs.length, .int .i64 R.ch.wd, .int .i64 R.ch.lf, .int .i64 R.ch.rt, .int .i64 R.ad, .int .i64 R.at_, .int .i64 R.bd, .int .i64 R.bt, .int .i64 R.cd, .int .i64 R.ct, .int .i64 R.dd, .int .i64 R.dt, .int .i64 R.ey, .int .i64 R.bo]) (by kernel_rfl) (⟨Blk.drew HBV, Blk.drew HuV, Blk.drew HvV, Blk.drew HY⟩) (fun hHeld => ?_)
  have hbA : Below w.heap.size w V.drew := Below.drew hbV
  have HJ : Ints V.drew (some ⟨g3, 0, none⟩) R.ch.zs := HJV.out
  generalize V.drew = vA at hbA HJ hHeld ⊢
  clear HBV HY HJV hbV HuV HvV
  refine wpAnyH_take (i := 0) (v := .agg #[.int .i64 R.ch.dg, .int .i64 R.ch.tn, .string R.ch.nm, .slice (some ⟨g3, 0, none⟩) R.ch.zs.length R.ch.zs.length, .int .i64 R.ch.wd, .int .i64 R.ch.lf, .int .i64 R.ch.rt, .int .i64 R.ad, .int .i64 R.at_, .int .i64 R.bd, .int .i64 R.bt, .int .i64 R.cd, .int .i64 R.ct, .int .i64 R.dd, .int .i64 R.dt, .int .i64 R.ey, .int .i64 R.bo]) rfl (by kernel_rfl) (by kernel_rfl) (by kernel_rfl) (fun _ _ _ h => h) (yieldsIf_load_blk 55 _ (Y) (fun _ h => h.2.2.2) Try.underlying55 (by kernel_rfl) (by rfl) rfl rfl) hHeld ?_
  try simp only [Act.put, List.setIfInBounds_toArray, List.set_cons_zero, List.set_cons_succ]
  refine wpAnyH_take (i := 1) (v := .agg #[.int .i64 ud, .int .i64 ut]) rfl (by kernel_rfl) (by kernel_rfl) (by kernel_rfl) (fun _ _ _ h => h) (yieldsIf_load_blk 23 _ (w.heap.size + 1) (fun _ h => h.2.1) Try.underlying23 (by kernel_rfl) (by rfl) rfl rfl) hHeld ?_
  try simp only [Act.put, List.setIfInBounds_toArray, List.set_cons_zero, List.set_cons_succ]
  refine wpAnyH_take (i := 3) (v := .agg #[.int .i64 vd, .int .i64 vt]) rfl (by kernel_rfl) (by kernel_rfl) (by kernel_rfl) (fun _ _ _ h => h) (yieldsIf_load_blk 23 _ (w.heap.size + 1 + 1) (fun _ h => h.2.2.1) Try.underlying23 (by kernel_rfl) (by rfl) rfl rfl) hHeld ?_
  try simp only [Act.put, List.setIfInBounds_toArray, List.set_cons_zero, List.set_cons_succ]
  refine wpAnyH_ready (rs := [2]) (by kernel_rfl) (by simp) ?_
  refine AllReadyH.cons rfl (fun K hK => ?_) AllReadyH.nil
  go_simp
  go_at_call 30; refine (toFigure_c ud ut _).mono ?_; rintro e w30 ⟨rfl, hb30⟩; obtain ⟨hc30, hf30, hz30⟩ := bel hb30; (try simp only [World.size_drew, World.cell?_drew, World.frozen?_drew] at hc30 hf30 hz30); (try simp only [World.heap_drewN, World.cell?_drewN, World.frozen?_drewN] at hc30 hf30 hz30); (try have hl30 : w.heap.size < w30.heap.size := by (have hq := hb30.size; (try simp at hq); omega)); (try have hm30 : w.heap.size + 1 < w30.heap.size := by (have hq := hb30.size; (try simp at hq); omega)); (try have hn30 : w.heap.size + 1 + 1 < w30.heap.size := by (have hq := hb30.size; (try simp at hq); omega)); (try have hp30 : b < w30.heap.size := by (have hq := hb30.size; (try simp at hq); omega)); (try have ho30 : b' < w30.heap.size := by (have hq := hb30.size; (try simp at hq); omega))
  go_wp2_with fail
  refine hK.out _ _ (⟨Blk.step hb30 hHeld.1, Blk.step hb30 hHeld.2.1, Blk.step hb30 hHeld.2.2.1, Blk.step hb30 hHeld.2.2.2⟩) (fun hHeld => ?_)
  clear hK K
  try simp only [Act.put, List.setIfInBounds_toArray, List.set_cons_zero, List.set_cons_succ]
  have hbel30 := Bel.step hb30 hbA
  have HJ := Ints.step hb30 HJ
  clear hb30 hc30 hf30 hz30
  refine wpAnyH_ready (rs := [4]) (by kernel_rfl) (by simp) ?_
  refine AllReadyH.cons rfl (fun K hK => ?_) AllReadyH.nil
  go_simp
  go_at_call 30; refine (toFigure_c vd vt _).mono ?_; rintro e w31 ⟨rfl, hb31⟩; obtain ⟨hc31, hf31, hz31⟩ := bel hb31; (try simp only [World.size_drew, World.cell?_drew, World.frozen?_drew] at hc31 hf31 hz31); (try simp only [World.heap_drewN, World.cell?_drewN, World.frozen?_drewN] at hc31 hf31 hz31); (try have hl31 : w.heap.size < w31.heap.size := by (have hq := hb31.size; (try simp at hq); omega)); (try have hm31 : w.heap.size + 1 < w31.heap.size := by (have hq := hb31.size; (try simp at hq); omega)); (try have hn31 : w.heap.size + 1 + 1 < w31.heap.size := by (have hq := hb31.size; (try simp at hq); omega)); (try have hp31 : b < w31.heap.size := by (have hq := hb31.size; (try simp at hq); omega)); (try have ho31 : b' < w31.heap.size := by (have hq := hb31.size; (try simp at hq); omega))
  go_wp2_with fail
  refine hK.out _ _ (⟨Blk.step hb31 hHeld.1, Blk.step hb31 hHeld.2.1, Blk.step hb31 hHeld.2.2.1, Blk.step hb31 hHeld.2.2.2⟩) (fun hHeld => ?_)
  clear hK K
  try simp only [Act.put, List.setIfInBounds_toArray, List.set_cons_zero, List.set_cons_succ]
  have hbel31 := Bel.step hb31 hbel30
  have HJ := Ints.step hb31 HJ
  clear hb31 hc31 hf31 hz31
  refine wpAnyH_ready (rs := [5]) (by kernel_rfl) (by simp) ?_
  refine AllReadyH.cons rfl (fun K hK => ?_) AllReadyH.nil
  go_simp
  go_at_call 38; refine (TestPair_I _ _ _ _ _ _ _ hn hm _ HJ).mono ?_; rintro e w6 ⟨rfl, hb6⟩; obtain ⟨hc6, hf6, hz6⟩ := bel hb6; (try simp only [World.size_drew, World.cell?_drew, World.frozen?_drew] at hc6 hf6 hz6); (try simp only [World.heap_drewN, World.cell?_drewN, World.frozen?_drewN] at hc6 hf6 hz6); (try have hl6 : w.heap.size < w6.heap.size := by (have hq := hb6.size; (try simp at hq); omega)); (try have hm6 : w.heap.size + 1 < w6.heap.size := by (have hq := hb6.size; (try simp at hq); omega)); (try have hn6 : w.heap.size + 1 + 1 < w6.heap.size := by (have hq := hb6.size; (try simp at hq); omega)); (try have hp6 : b < w6.heap.size := by (have hq := hb6.size; (try simp at hq); omega)); (try have ho6 : b' < w6.heap.size := by (have hq := hb6.size; (try simp at hq); omega))
  go_wp2_with fail
  refine hK.out _ _ (⟨Blk.step hb6 hHeld.1, Blk.step hb6 hHeld.2.1, Blk.step hb6 hHeld.2.2.1, Blk.step hb6 hHeld.2.2.2⟩) (fun hHeld => ?_)
  clear hK K
  try simp only [Act.put, List.setIfInBounds_toArray, List.set_cons_zero, List.set_cons_succ]
  have hbel6 := Bel.step hb6 hbel31
  have HI6 := Lib.hid (Ints.step hbel6 hA)
  have HJ6 := Lib.hid (Ints.step hb6 HJ)
  clear hb6 hc6 hf6 hz6 HJ
  refine wpAnyH_take (i := 6) (v := (.tuple #[.bool (tpB R ud ut vd vt), .int .i64 (tpC R ud ut vd vt)])) rfl (by kernel_rfl) (by kernel_rfl) (by kernel_rfl) (fun _ _ _ h => h) (Or.inl ⟨by rfl, fun w _ => by simp [go_sem, execOp]⟩) hHeld ?_
  try simp only [Act.put, List.setIfInBounds_toArray, List.set_cons_zero, List.set_cons_succ]
  refine wpAnyH_take (i := 7) (v := (.bool (tpB R ud ut vd vt))) rfl (by kernel_rfl) (by kernel_rfl) (by kernel_rfl) (fun _ _ _ h => h) (Or.inl ⟨by rfl, fun w _ => by simp [go_sem, execOp]⟩) hHeld ?_
  try simp only [Act.put, List.setIfInBounds_toArray, List.set_cons_zero, List.set_cons_succ]
  refine wpAnyH_take (i := 8) (v := (.int .i64 (tpC R ud ut vd vt))) rfl (by kernel_rfl) (by kernel_rfl) (by kernel_rfl) (fun _ _ _ h => h) (Or.inl ⟨by rfl, fun w _ => by simp [go_sem, execOp]⟩) hHeld ?_
  try simp only [Act.put, List.setIfInBounds_toArray, List.set_cons_zero, List.set_cons_succ]
  refine wpAnyH_take (i := 9) (v := (.bool (tpB R ud ut vd vt))) rfl (by kernel_rfl) (by kernel_rfl) (by kernel_rfl) (fun _ _ _ h => h) (Or.inl ⟨by rfl, fun w _ => by simp [go_sem, execOp]⟩) hHeld ?_
  try simp only [Act.put, List.setIfInBounds_toArray, List.set_cons_zero, List.set_cons_succ]
  refine wpAnyH_take (i := 10) (v := (.int .i64 (tpC R ud ut vd vt))) rfl (by kernel_rfl) (by kernel_rfl) (by kernel_rfl) (fun _ _ _ h => h) (Or.inl ⟨by rfl, fun w _ => by simp [go_sem, execOp]⟩) hHeld ?_
  try simp only [Act.put, List.setIfInBounds_toArray, List.set_cons_zero, List.set_cons_succ]
  refine wpAnyH_done (by kernel_rfl) ?_ _
  obtain ⟨HB6, _, _, HY6⟩ := hHeld
  go_upto_region 10 with (fail)
  refine wp_region_held_drew (S := fun W => Blk W Y 55 #[.int .i64 R.ch.dg, .int .i64 R.ch.tn, .string R.ch.nm, .slice (some ⟨g3, 0, none⟩) R.ch.zs.length R.ch.zs.length, .int .i64 R.ch.wd, .int .i64 R.ch.lf, .int .i64 R.ch.rt, .int .i64 R.ad, .int .i64 R.at_, .int .i64 R.bd, .int .i64 R.bt, .int .i64 R.cd, .int .i64 R.ct, .int .i64 R.dd, .int .i64 R.dt, .int .i64 R.ey, .int .i64 R.bo] ∧ Blk W w.heap.size 52 #[.int .i64 R.ch.dg, .int .i64 R.ch.tn, .string R.ch.nm, .slice A R.ch.zs.length c, .int .i64 R.ch.wd, .int .i64 R.ch.lf, .int .i64 R.ch.rt, .int .i64 R.ad, .int .i64 R.at_, .int .i64 R.bd, .int .i64 R.bt, .int .i64 R.cd, .int .i64 R.ct, .int .i64 R.dd, .int .i64 R.dt, .int .i64 R.ey, .int .i64 R.bo]) (by kernel_rfl) (⟨Blk.drew HY6, Blk.drew HB6⟩) (fun hHeld => ?_)
  have hbA : Below w.heap.size w w6.drew := Below.drew hbel6
  have HIA : Ints w6.drew A R.ch.zs := HI6.out
  have HJA : Ints w6.drew (some ⟨g3, 0, none⟩) R.ch.zs := HJ6.out
  generalize w6.drew = wE at hbA HIA HJA hHeld ⊢
  clear HB6 HY6 HI6 HJ6
  refine wpAnyH_take (i := 0) (v := .agg #[.int .i64 R.ch.dg, .int .i64 R.ch.tn, .string R.ch.nm, .slice (some ⟨g3, 0, none⟩) R.ch.zs.length R.ch.zs.length, .int .i64 R.ch.wd, .int .i64 R.ch.lf, .int .i64 R.ch.rt, .int .i64 R.ad, .int .i64 R.at_, .int .i64 R.bd, .int .i64 R.bt, .int .i64 R.cd, .int .i64 R.ct, .int .i64 R.dd, .int .i64 R.dt, .int .i64 R.ey, .int .i64 R.bo]) rfl (by kernel_rfl) (by kernel_rfl) (by kernel_rfl) (fun _ _ _ h => h) (yieldsIf_load_blk 55 _ (Y) (fun _ h => h.1) Try.underlying55 (by kernel_rfl) (by rfl) rfl rfl) hHeld ?_
  try simp only [Act.put, List.setIfInBounds_toArray, List.set_cons_zero, List.set_cons_succ]
  refine wpAnyH_take (i := 1) (v := .agg #[.int .i64 R.ch.dg, .int .i64 R.ch.tn, .string R.ch.nm, .slice A R.ch.zs.length c, .int .i64 R.ch.wd, .int .i64 R.ch.lf, .int .i64 R.ch.rt, .int .i64 R.ad, .int .i64 R.at_, .int .i64 R.bd, .int .i64 R.bt, .int .i64 R.cd, .int .i64 R.ct, .int .i64 R.dd, .int .i64 R.dt, .int .i64 R.ey, .int .i64 R.bo]) rfl (by kernel_rfl) (by kernel_rfl) (by kernel_rfl) (fun _ _ _ h => h) (yieldsIf_load_blk 52 _ (w.heap.size) (fun _ h => h.2) Try.underlying52 (by kernel_rfl) (by rfl) rfl rfl) hHeld ?_
  try simp only [Act.put, List.setIfInBounds_toArray, List.set_cons_zero, List.set_cons_succ]
  refine wpAnyH_ready (rs := [2]) (by kernel_rfl) (by simp) ?_
  refine AllReadyH.cons rfl (fun K hK => ?_) AllReadyH.nil
  go_simp
  go_at_call 29; refine (toRelease_c _ _ _ hn _ HIA).mono ?_; rintro e w7 ⟨g7, rfl, hg7, hB7, hb7⟩; obtain ⟨hc7, hf7, hz7⟩ := bel hb7; (try simp only [World.size_drew, World.cell?_drew, World.frozen?_drew] at hc7 hf7 hz7); (try simp only [World.heap_drewN, World.cell?_drewN, World.frozen?_drewN] at hc7 hf7 hz7); (try have hl7 : w.heap.size < w7.heap.size := by (have hq := hb7.size; (try simp at hq); omega)); (try have hm7 : w.heap.size + 1 < w7.heap.size := by (have hq := hb7.size; (try simp at hq); omega)); (try have hn7 : w.heap.size + 1 + 1 < w7.heap.size := by (have hq := hb7.size; (try simp at hq); omega)); (try have hp7 : b < w7.heap.size := by (have hq := hb7.size; (try simp at hq); omega)); (try have ho7 : b' < w7.heap.size := by (have hq := hb7.size; (try simp at hq); omega))
  go_wp2_with fail
  refine hK.out _ _ (⟨Blk.step hb7 hHeld.1, Blk.step hb7 hHeld.2⟩) (fun hHeld => ?_)
  clear hK K
  try simp only [Act.put, List.setIfInBounds_toArray, List.set_cons_zero, List.set_cons_succ]
  have hbel7 := Bel.step hb7 hbA
  have HJ7 := Ints.step hb7 HJA
  have HK7 := hB7.ints
  clear hb7 hc7 hf7 hz7 hB7 hg7
  refine wpAnyH_ready (rs := [3]) (by kernel_rfl) (by simp) ?_
  refine AllReadyH.cons rfl (fun K hK => ?_) AllReadyH.nil
  go_simp
  go_at_call 32; refine (eqRelease_c _ _ _ _ _ hn _ HJ7 HK7).mono ?_; rintro e w8 ⟨rfl, hb8⟩; obtain ⟨hc8, hf8, hz8⟩ := bel hb8; (try simp only [World.size_drew, World.cell?_drew, World.frozen?_drew] at hc8 hf8 hz8); (try simp only [World.heap_drewN, World.cell?_drewN, World.frozen?_drewN] at hc8 hf8 hz8); (try have hl8 : w.heap.size < w8.heap.size := by (have hq := hb8.size; (try simp at hq); omega)); (try have hm8 : w.heap.size + 1 < w8.heap.size := by (have hq := hb8.size; (try simp at hq); omega)); (try have hn8 : w.heap.size + 1 + 1 < w8.heap.size := by (have hq := hb8.size; (try simp at hq); omega)); (try have hp8 : b < w8.heap.size := by (have hq := hb8.size; (try simp at hq); omega)); (try have ho8 : b' < w8.heap.size := by (have hq := hb8.size; (try simp at hq); omega))
  go_wp2_with fail
  refine hK.out _ _ (⟨Blk.step hb8 hHeld.1, Blk.step hb8 hHeld.2⟩) (fun hHeld => ?_)
  clear hK K
  try simp only [Act.put, List.setIfInBounds_toArray, List.set_cons_zero, List.set_cons_succ]
  have hbel8 := Bel.step hb8 hbel7
  clear hb8 hc8 hf8 hz8
  refine wpAnyH_take (i := 4) (v := (.bool false)) rfl (by kernel_rfl) (by kernel_rfl) (by kernel_rfl) (fun _ _ _ h => h) (Or.inl ⟨by rfl, fun w _ => by simp [go_sem, execOp]⟩) hHeld ?_
  try simp only [Act.put, List.setIfInBounds_toArray, List.set_cons_zero, List.set_cons_succ]
  refine wpAnyH_done (by kernel_rfl) ?_ _
  go_wp2
  go_ret
  exact ⟨rfl, hbel8⟩
end Go.Proofs.Ytkhcepkcdfpofaa
