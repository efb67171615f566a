/- The statement FnExactCompareLayouts, walked. No conditions. -/
import Derived.Test.YtkhcepkcdfpofaaProg
import Derived.Test.YtkhcepkcdfpofaaBase
import Derived.Test.YtkhcepkcdfpofaaRw
import Derived.Test.YtkhcepkcdfpofaaRg
import Derived.Test.YtkhcepkcdfpofaaL01
import Derived.Test.YtkhcepkcdfpofaaCp
import Derived.Test.YtkhcepkcdfpofaaCh
import Derived.Test.YtkhcepkcdfpofaaL18
import Derived.Test.YtkhcepkcdfpofaaW23
import Derived.Test.YtkhcepkcdfpofaaL23
import Derived.Test.YtkhcepkcdfpofaaL03
import Derived.Test.YtkhcepkcdfpofaaL04
import Derived.Test.YtkhcepkcdfpofaaL23d
import Derived.Test.YtkhcepkcdfpofaaL23e
import Derived.Test.YtkhcepkcdfpofaaL23f
import Derived.Test.YtkhcepkcdfpofaaL24
import Derived.Test.YtkhcepkcdfpofaaL24b
import Derived.Test.YtkhcepkcdfpofaaL24c
import Derived.Test.YtkhcepkcdfpofaaL24d
import Derived.Test.YtkhcepkcdfpofaaL24f
import Derived.Test.YtkhcepkcdfpofaaL24g
import Derived.Test.YtkhcepkcdfpofaaL24r
import Derived.Test.YtkhcepkcdfpofaaM24
import Derived.Test.YtkhcepkcdfpofaaM24r
import Derived.Test.YtkhcepkcdfpofaaL26a
import Derived.Test.YtkhcepkcdfpofaaL26b
import Derived.Test.YtkhcepkcdfpofaaL26c
import Derived.Test.YtkhcepkcdfpofaaL26d
import Derived.Test.YtkhcepkcdfpofaaL27o
import Derived.Test.YtkhcepkcdfpofaaL26e
import Derived.WalkKit
import Derived.WalkSpells
import Derived.WalkLawsBesides
import Derived.Lib.Hide
import Derived.Deep.QuietTactic
import Derived.BigQuiet
import Derived.Deep.Draws
import Derived.Deep.RegionHeld3
import Derived.Deep.Cut
import Derived.Deep.WholeRow
namespace Go.Proofs.Ytkhcepkcdfpofaa
open Go.RowKit
set_option linter.unusedVariables false
theorem sz2_le {l : Int} {C : Ch} (h : C.nm.size + C.zs.length ≤ l) : sz2 l C = l - C.nm.size - C.zs.length := by
  unfold sz2 szV
  rw [if_neg (by omega), if_neg (by omega)]
theorem sz2_gt {l : Int} {C : Ch} (h : ¬ C.nm.size + C.zs.length ≤ l) (h0 : 0 ≤ l) : sz2 l C = -1 := by
  unfold sz2 szV
  split
  · rfl
  · rw [if_pos (by omega)]
set_option maxRecDepth 50000 in
set_option maxHeartbeats 2000000 in
theorem FnExactCompareLayouts_w (w : World) (C : Ch) (A : Option Addr) (c : Nat) (hl : C.zs.length ≤ 9223372036854775807) (hA : Ints w A C.zs) (hs : C.nm.size ≤ 9223372036854775807) (K : Ch) (B : Option Addr) (b : Nat) (kl : K.zs.length ≤ 9223372036854775807) (hB : Ints w B K.zs) (ks : K.nm.size ≤ 9223372036854775807) (D : Option Addr) (d : Nat) (us : List (Int × Int)) (hlu : us.length ≤ 9223372036854775807) (hD : Prs w D us) (E : Option Addr) (f : Nat) (vs : List (Int × Int)) (hlv : vs.length ≤ 9223372036854775807) (hE : Prs w E vs) (e : Int) (ge : (Lit.int .i64 e).wf = true) :
    Calls Try.prog 6 #[.agg #[.int .i64 C.dg, .int .i64 C.tn, .string C.nm, .slice A C.zs.length c, .int .i64 C.wd, .int .i64 C.lf, .int .i64 C.rt], .agg #[.int .i64 K.dg, .int .i64 K.tn, .string K.nm, .slice B K.zs.length b, .int .i64 K.wd, .int .i64 K.lf, .int .i64 K.rt], .slice D us.length d, .slice E vs.length f, .int .i64 e] w fun r w' => r = .returned (.bool true) ∧ Below w.heap.size w w' := by
  by_cases hz : (C.nm.size : Int) + C.zs.length ≤ 1048576
  rotate_left
  · have HZ := Lib.hid (sz2_gt hz (by omega))
    go_enter Try.func6, Try.ntmps6
    go_wp2_with fail
    go_at_call 13; refine (szChart_c C A c 1048576 (by omega) (by omega) hl hs _).mono ?_; rintro e w1 ⟨rfl, hb1⟩; obtain ⟨hc1, hf1, hz1⟩ := bel hb1; (try simp only [World.size_drew, World.cell?_drew, World.frozen?_drew] at hc1 hf1 hz1); (try simp only [World.heap_drewN, World.cell?_drewN, World.frozen?_drewN] at hc1 hf1 hz1); (try have hl1 : w.heap.size < w1.heap.size := by (have hq := hb1.size; (try simp at hq); omega)); (try have hm1 : w.heap.size + 1 < w1.heap.size := by (have hq := hb1.size; (try simp at hq); omega)); (try have hn1 : w.heap.size + 1 + 1 < w1.heap.size := by (have hq := hb1.size; (try simp at hq); omega)); (try have hp1 : b < w1.heap.size := by (have hq := hb1.size; (try simp at hq); omega)); (try have ho1 : b' < w1.heap.size := by (have hq := hb1.size; (try simp at hq); omega))
    rw [HZ.out]
    go_wp2
    go_ret
    exact ⟨rfl, by repeat (with_reducible first | exact Below.refl _ _ | assumption | refine Bel.alloc ?_ _ | refine Bel.step (by assumption) ?_ | refine Below.drew ?_ | refine Bel.drewN ?_ _ | refine Below.setCell ?_ (by first | exact Nat.le_refl _ | omega | (simp; done) | (simp; omega)) _)⟩
  have HZ := Lib.hid (sz2_le hz)
  have hq : (0 : Int) ≤ 1048576 - C.nm.size - C.zs.length := by omega
  have hn : C.zs.length ≤ 1048576 := by omega
  have hm : C.nm.size ≤ 1048576 := by omega
  go_enter Try.func6, Try.ntmps6
  go_wp2_with fail
  go_at_call 13; refine (szChart_c C A c 1048576 (by omega) (by omega) hl hs _).mono ?_; rintro e w1 ⟨rfl, hb1⟩; obtain ⟨hc1, hf1, hz1⟩ := bel hb1; (try simp only [World.size_drew, World.cell?_drew, World.frozen?_drew] at hc1 hf1 hz1); (try simp only [World.heap_drewN, World.cell?_drewN, World.frozen?_drewN] at hc1 hf1 hz1); (try have hl1 : w.heap.size < w1.heap.size := by (have hq := hb1.size; (try simp at hq); omega)); (try have hm1 : w.heap.size + 1 < w1.heap.size := by (have hq := hb1.size; (try simp at hq); omega)); (try have hn1 : w.heap.size + 1 + 1 < w1.heap.size := by (have hq := hb1.size; (try simp at hq); omega)); (try have hp1 : b < w1.heap.size := by (have hq := hb1.size; (try simp at hq); omega)); (try have ho1 : b' < w1.heap.size := by (have hq := hb1.size; (try simp at hq); omega))
  rw [HZ.out]
  have hbel1 : Below w.heap.size w w1 := by repeat (with_reducible first | exact Below.refl _ _ | assumption | refine Bel.alloc ?_ _ | refine Bel.step (by assumption) ?_ | refine Below.drew ?_ | refine Bel.drewN ?_ _ | refine Below.setCell ?_ (by first | exact Nat.le_refl _ | omega | (simp; done) | (simp; omega)) _)
  have HC1 : Blk w1 w.heap.size 28 #[.int .i64 C.dg, .int .i64 C.tn, .string C.nm, .slice A C.zs.length c, .int .i64 C.wd, .int .i64 C.lf, .int .i64 C.rt] := Blk.step hb1 (Blk.alloc _ (Blk.new _ _ _))
  have HK1 : Blk w1 (w.heap.size + 1) 28 #[.int .i64 K.dg, .int .i64 K.tn, .string K.nm, .slice B K.zs.length b, .int .i64 K.wd, .int .i64 K.lf, .int .i64 K.rt] := Blk.step hb1 (by have h := Blk.new (w.alloc (.cells #[.int .i64 C.dg, .int .i64 C.tn, .string C.nm, .slice A C.zs.length c, .int .i64 C.wd, .int .i64 C.lf, .int .i64 C.rt] 28)) 28 #[.int .i64 K.dg, .int .i64 K.tn, .string K.nm, .slice B K.zs.length b, .int .i64 K.wd, .int .i64 K.lf, .int .i64 K.rt]; simp only [World.size_alloc] at h; exact h)
  clear hb1 hc1 hf1 hz1
  go_wp2_with (refine wpList_load_blkG 28 _ _ HK1 Try.underlying28 (by kernel_rfl) rfl rfl (by rfl) ?_)
  go_at_call 13; refine (szChart_c K B b (1048576 - C.nm.size - C.zs.length) (by omega) (by omega) kl ks _).mono ?_; rintro r w2 ⟨rfl, hb2⟩
  have hbel2 := Bel.step hb2 hbel1
  have HC2 := Blk.step hb2 HC1
  have HK2 := Blk.step hb2 HK1
  clear hb2 HC1 HK1 hbel1
  by_cases hz1 : (K.nm.size : Int) + K.zs.length ≤ 1048576 - C.nm.size - C.zs.length
  rotate_left
  · have HZ1 := Lib.hid (sz2_gt hz1 (by omega))
    rw [HZ1.out]
    go_wp2
    go_ret
    exact ⟨rfl, by repeat (with_reducible first | exact Below.refl _ _ | assumption | refine Bel.alloc ?_ _ | refine Bel.step (by assumption) ?_ | refine Below.drew ?_ | refine Bel.drewN ?_ _ | refine Below.setCell ?_ (by first | exact Nat.le_refl _ | omega | (simp; done) | (simp; omega)) _)⟩
  have HZ1 := Lib.hid (sz2_le hz1)
  have hq1 : (0 : Int) ≤ 1048576 - C.nm.size - C.zs.length - K.nm.size - K.zs.length := by omega
  have kn : K.zs.length ≤ 1048576 := by omega
  have km : K.nm.size ≤ 1048576 := by omega
  rw [HZ1.out]
  go_wp2_with fail
  refine (szFigureS_c D us.length d (1048576 - C.nm.size - C.zs.length - K.nm.size - K.zs.length) (by omega) (by omega) hlu _).mono ?_; rintro r w' ⟨rfl, rfl⟩
  by_cases hz2 : (us.length : Int) ≤ 1048576 - C.nm.size - C.zs.length - K.nm.size - K.zs.length
  rotate_left
  · have HZ2 := Lib.hid (show szV (1048576 - C.nm.size - C.zs.length - K.nm.size - K.zs.length) us.length = -1 by unfold szV; rw [if_pos (by omega)])
    rw [HZ2.out]
    go_wp2
    go_ret
    exact ⟨rfl, by repeat (with_reducible first | exact Below.refl _ _ | assumption | refine Bel.alloc ?_ _ | refine Bel.step (by assumption) ?_ | refine Below.drew ?_ | refine Bel.drewN ?_ _ | refine Below.setCell ?_ (by first | exact Nat.le_refl _ | omega | (simp; done) | (simp; omega)) _)⟩
  have HZ2 := Lib.hid (show szV (1048576 - C.nm.size - C.zs.length - K.nm.size - K.zs.length) us.length = 1048576 - C.nm.size - C.zs.length - K.nm.size - K.zs.length - us.length by unfold szV; rw [if_neg (by omega)])
  have hq2 : (0 : Int) ≤ 1048576 - C.nm.size - C.zs.length - K.nm.size - K.zs.length - us.length := by omega
  have hu : us.length ≤ 1048576 := by omega
  rw [HZ2.out]
  go_wp2_with fail
  refine (szFigureS_c E vs.length f (1048576 - C.nm.size - C.zs.length - K.nm.size - K.zs.length - us.length) (by omega) (by omega) hlv _).mono ?_; rintro r w' ⟨rfl, rfl⟩
  by_cases hz3 : (vs.length : Int) ≤ 1048576 - C.nm.size - C.zs.length - K.nm.size - K.zs.length - us.length
  rotate_left
  · have HZ3 := Lib.hid (show szV (1048576 - C.nm.size - C.zs.length - K.nm.size - K.zs.length - us.length) vs.length = -1 by unfold szV; rw [if_pos (by omega)])
    rw [HZ3.out]
    go_wp2
    go_ret
    exact ⟨rfl, by repeat (with_reducible first | exact Below.refl _ _ | assumption | refine Bel.alloc ?_ _ | refine Bel.step (by assumption) ?_ | refine Below.drew ?_ | refine Bel.drewN ?_ _ | refine Below.setCell ?_ (by first | exact Nat.le_refl _ | omega | (simp; done) | (simp; omega)) _)⟩
  have HZ3 := Lib.hid (show szV (1048576 - C.nm.size - C.zs.length - K.nm.size - K.zs.length - us.length) vs.length = 1048576 - C.nm.size - C.zs.length - K.nm.size - K.zs.length - us.length - vs.length by unfold szV; rw [if_neg (by omega)])
  have hq3 : (0 : Int) ≤ 1048576 - C.nm.size - C.zs.length - K.nm.size - K.zs.length - us.length - vs.length := by omega
  have hv : vs.length ≤ 1048576 := by omega
  rw [HZ3.out]
  clear hz hz1 hz2 hz3
  go_upto_region 14 with (fail)
  refine wp_region_held_drew (S := fun W => Blk W w.heap.size 28 #[.int .i64 C.dg, .int .i64 C.tn, .string C.nm, .slice A C.zs.length c, .int .i64 C.wd, .int .i64 C.lf, .int .i64 C.rt] ∧ Blk W (w.heap.size + 1) 28 #[.int .i64 K.dg, .int .i64 K.tn, .string K.nm, .slice B K.zs.length b, .int .i64 K.wd, .int .i64 K.lf, .int .i64 K.rt]) (by kernel_rfl) (⟨Blk.drew HC2, Blk.drew HK2⟩) (fun hHeld => ?_)
  have hbelA : Below w.heap.size w w2.drew := Below.drew hbel2
  generalize w2.drew = wA at hbelA hHeld ⊢
  have HI := Ints.step hbelA hA
  clear HC2 HK2 hbel2
  refine wpAnyH_take (i := 0) (v := .agg #[.int .i64 C.dg, .int .i64 C.tn, .string C.nm, .slice A C.zs.length c, .int .i64 C.wd, .int .i64 C.lf, .int .i64 C.rt]) rfl (by kernel_rfl) (by kernel_rfl) (by kernel_rfl) (fun _ _ _ h => h) (yieldsIf_load_blk 28 _ (w.heap.size) (fun _ h => h.1) Try.underlying28 (by kernel_rfl) (by rfl) rfl rfl) hHeld ?_
  try simp only [Act.put, List.setIfInBounds_toArray, List.set_cons_zero, List.set_cons_succ]
  refine wpAnyH_take (i := 2) (v := .agg #[.int .i64 K.dg, .int .i64 K.tn, .string K.nm, .slice B K.zs.length b, .int .i64 K.wd, .int .i64 K.lf, .int .i64 K.rt]) rfl (by kernel_rfl) (by kernel_rfl) (by kernel_rfl) (fun _ _ _ h => h) (yieldsIf_load_blk 28 _ (w.heap.size + 1) (fun _ h => h.2) Try.underlying28 (by kernel_rfl) (by rfl) rfl rfl) hHeld ?_
  try simp only [Act.put, List.setIfInBounds_toArray, List.set_cons_zero, List.set_cons_succ]
  refine wpAnyH_take (i := 4) (v := (.slice D us.length d)) rfl (by kernel_rfl) (by kernel_rfl) (by kernel_rfl) (fun _ _ _ h => h) (Or.inl ⟨by rfl, fun w _ => by simp [go_sem, execOp]⟩) hHeld ?_
  try simp only [Act.put, List.setIfInBounds_toArray, List.set_cons_zero, List.set_cons_succ]
  refine wpAnyH_take (i := 6) (v := (.slice E vs.length f)) rfl (by kernel_rfl) (by kernel_rfl) (by kernel_rfl) (fun _ _ _ h => h) (Or.inl ⟨by rfl, fun w _ => by simp [go_sem, execOp]⟩) hHeld ?_
  try simp only [Act.put, List.setIfInBounds_toArray, List.set_cons_zero, List.set_cons_succ]
  refine wpAnyH_take (i := 8) (v := (.int .i64 e)) rfl (by kernel_rfl) (by kernel_rfl) (by kernel_rfl) (fun _ _ _ h => h) (Or.inl ⟨by rfl, fun w _ => by simp [go_sem, execOp]⟩) hHeld ?_
  try simp only [Act.put, List.setIfInBounds_toArray, List.set_cons_zero, List.set_cons_succ]
  refine wpAnyH_ready (rs := [1]) (by kernel_rfl) (by simp) ?_
  refine AllReadyH.cons rfl (fun K hK => ?_) AllReadyH.nil
  go_simp
  go_at_call 16; refine (toChart_c _ _ _ hn _ HI).mono ?_; rintro e w3 ⟨g3, rfl, hg3, hB3, hb3⟩; obtain ⟨hc3, hf3, hz3⟩ := bel hb3; (try simp only [World.size_drew, World.cell?_drew, World.frozen?_drew] at hc3 hf3 hz3); (try simp only [World.heap_drewN, World.cell?_drewN, World.frozen?_drewN] at hc3 hf3 hz3); (try have hl3 : w.heap.size < w3.heap.size := by (have hq := hb3.size; (try simp at hq); omega)); (try have hm3 : w.heap.size + 1 < w3.heap.size := by (have hq := hb3.size; (try simp at hq); omega)); (try have hn3 : w.heap.size + 1 + 1 < w3.heap.size := by (have hq := hb3.size; (try simp at hq); omega)); (try have hp3 : b < w3.heap.size := by (have hq := hb3.size; (try simp at hq); omega)); (try have ho3 : b' < w3.heap.size := by (have hq := hb3.size; (try simp at hq); omega))
  go_wp2_with fail
  refine hK.out _ _ (⟨Blk.step hb3 hHeld.1, Blk.step hb3 hHeld.2⟩) (fun hHeld => ?_)
  clear hK K
  try simp only [Act.put, List.setIfInBounds_toArray, List.set_cons_zero, List.set_cons_succ]
  have hbel3 := Bel.step hb3 hbelA
  have HJ3 := hB3.ints
  have HI3 := Ints.step hbel3 hB
  clear hb3 hc3 hf3 hz3 hB3 hg3 HI hbelA
  refine wpAnyH_ready (rs := [3]) (by kernel_rfl) (by simp) ?_
  refine AllReadyH.cons rfl (fun K hK => ?_) AllReadyH.nil
  go_simp
  go_at_call 16; refine (toChart_c _ _ _ kn _ HI3).mono ?_; rintro e w4 ⟨g4, rfl, hg4, hB4, hb4⟩; obtain ⟨hc4, hf4, hz4⟩ := bel hb4; (try simp only [World.size_drew, World.cell?_drew, World.frozen?_drew] at hc4 hf4 hz4); (try simp only [World.heap_drewN, World.cell?_drewN, World.frozen?_drewN] at hc4 hf4 hz4); (try have hl4 : w.heap.size < w4.heap.size := by (have hq := hb4.size; (try simp at hq); omega)); (try have hm4 : w.heap.size + 1 < w4.heap.size := by (have hq := hb4.size; (try simp at hq); omega)); (try have hn4 : w.heap.size + 1 + 1 < w4.heap.size := by (have hq := hb4.size; (try simp at hq); omega)); (try have hp4 : b < w4.heap.size := by (have hq := hb4.size; (try simp at hq); omega)); (try have ho4 : b' < w4.heap.size := by (have hq := hb4.size; (try simp at hq); omega))
  go_wp2_with fail
  refine hK.out _ _ (⟨Blk.step hb4 hHeld.1, Blk.step hb4 hHeld.2⟩) (fun hHeld => ?_)
  clear hK K
  try simp only [Act.put, List.setIfInBounds_toArray, List.set_cons_zero, List.set_cons_succ]
  have hbel4 := Bel.step hb4 hbel3
  have HJ4 := Ints.step hb4 HJ3
  have HK4 := hB4.ints
  have HD4 := Prs.step hbel4 hD
  clear hb4 hc4 hf4 hz4 hB4 hg4 HI3 HJ3 hbel3
  refine wpAnyH_ready (rs := [5]) (by kernel_rfl) (by simp) ?_
  refine AllReadyH.cons rfl (fun K hK => ?_) AllReadyH.nil
  go_simp
  go_at_call 17; refine (toFigureS_c D d us hu _ HD4).mono ?_; rintro e w5 ⟨rfl, hB5, hb5⟩; obtain ⟨hc5, hf5, hz5⟩ := bel hb5; (try simp only [World.size_drew, World.cell?_drew, World.frozen?_drew] at hc5 hf5 hz5); (try simp only [World.heap_drewN, World.cell?_drewN, World.frozen?_drewN] at hc5 hf5 hz5); (try have hl5 : w.heap.size < w5.heap.size := by (have hq := hb5.size; (try simp at hq); omega)); (try have hm5 : w.heap.size + 1 < w5.heap.size := by (have hq := hb5.size; (try simp at hq); omega)); (try have hn5 : w.heap.size + 1 + 1 < w5.heap.size := by (have hq := hb5.size; (try simp at hq); omega)); (try have hp5 : b < w5.heap.size := by (have hq := hb5.size; (try simp at hq); omega)); (try have ho5 : b' < w5.heap.size := by (have hq := hb5.size; (try simp at hq); omega))
  go_wp2_with fail
  refine hK.out _ _ (⟨Blk.step hb5 hHeld.1, Blk.step hb5 hHeld.2⟩) (fun hHeld => ?_)
  clear hK K
  try simp only [Act.put, List.setIfInBounds_toArray, List.set_cons_zero, List.set_cons_succ]
  have hbel5 := Bel.step hb5 hbel4
  have HJ5 := Ints.step hb5 HJ4
  have HK5 := Ints.step hb5 HK4
  have HU5 := hB5.prs
  have HE5 := Prs.step hbel5 hE
  clear hb5 hc5 hf5 hz5 hB5 HD4 HJ4 HK4 hbel4
  refine wpAnyH_ready (rs := [7]) (by kernel_rfl) (by simp) ?_
  refine AllReadyH.cons rfl (fun K hK => ?_) AllReadyH.nil
  go_simp
  go_at_call 17; refine (toFigureS_c E f vs hv _ HE5).mono ?_; rintro e w6 ⟨rfl, hB6, hb6⟩; obtain ⟨hc6, hf6, hz6⟩ := bel hb6; (try simp only [World.size_drew, World.cell?_drew, World.frozen?_drew] at hc6 hf6 hz6); (try simp only [World.heap_drewN, World.cell?_drewN, World.frozen?_drewN] at hc6 hf6 hz6); (try have hl6 : w.heap.size < w6.heap.size := by (have hq := hb6.size; (try simp at hq); omega)); (try have hm6 : w.heap.size + 1 < w6.heap.size := by (have hq := hb6.size; (try simp at hq); omega)); (try have hn6 : w.heap.size + 1 + 1 < w6.heap.size := by (have hq := hb6.size; (try simp at hq); omega)); (try have hp6 : b < w6.heap.size := by (have hq := hb6.size; (try simp at hq); omega)); (try have ho6 : b' < w6.heap.size := by (have hq := hb6.size; (try simp at hq); omega))
  go_wp2_with fail
  refine hK.out _ _ (⟨Blk.step hb6 hHeld.1, Blk.step hb6 hHeld.2⟩) (fun hHeld => ?_)
  clear hK K
  try simp only [Act.put, List.setIfInBounds_toArray, List.set_cons_zero, List.set_cons_succ]
  have hbel6 := Bel.step hb6 hbel5
  have HJ6 := Ints.step hb6 HJ5
  have HK6 := Ints.step hb6 HK5
  have HU6 := Prs.step hb6 HU5
  have HV6 := hB6.prs
  clear hb6 hc6 hf6 hz6 hB6 HE5 HJ5 HK5 HU5 hbel5
  refine wpAnyH_ready (rs := [9]) (by kernel_rfl) (by simp) ?_
  refine AllReadyH.cons rfl (fun K hK => ?_) AllReadyH.nil
  go_simp
  go_at_call 25; refine (CompareLayouts_S _ _ _ _ _ _ _ _ us _ _ vs e hn hm kn km hu hv _ HJ6 HK6 HU6 HV6).mono ?_; rintro e w7 ⟨rfl, hb7⟩; obtain ⟨hc7, hf7, hz7⟩ := bel hb7; (try simp only [World.size_drew, World.cell?_drew, World.frozen?_drew] at hc7 hf7 hz7); (try simp only [World.heap_drewN, World.cell?_drewN, World.frozen?_drewN] at hc7 hf7 hz7); (try have hl7 : w.heap.size < w7.heap.size := by (have hq := hb7.size; (try simp at hq); omega)); (try have hm7 : w.heap.size + 1 < w7.heap.size := by (have hq := hb7.size; (try simp at hq); omega)); (try have hn7 : w.heap.size + 1 + 1 < w7.heap.size := by (have hq := hb7.size; (try simp at hq); omega)); (try have hp7 : b < w7.heap.size := by (have hq := hb7.size; (try simp at hq); omega)); (try have ho7 : b' < w7.heap.size := by (have hq := hb7.size; (try simp at hq); omega))
  go_wp2_with fail
  refine hK.out _ _ (⟨Blk.step hb7 hHeld.1, Blk.step hb7 hHeld.2⟩) (fun hHeld => ?_)
  clear hK K
  try simp only [Act.put, List.setIfInBounds_toArray, List.set_cons_zero, List.set_cons_succ]
  have hbel7 := Bel.step hb7 hbel6
  have HI7 := Lib.hid (Ints.step hbel7 hA)
  clear hb7 hc7 hf7 hz7 HJ6 HK6 HU6 HV6 hbel6
  refine wpAnyH_take (i := 10) (v := (.tuple #[.int .i64 (cmV C K us vs e), .int .i64 (cmC C K us vs e)])) rfl (by kernel_rfl) (by kernel_rfl) (by kernel_rfl) (fun _ _ _ h => h) (Or.inl ⟨by rfl, fun w _ => by simp [go_sem, execOp]⟩) hHeld ?_
  try simp only [Act.put, List.setIfInBounds_toArray, List.set_cons_zero, List.set_cons_succ]
  refine wpAnyH_take (i := 11) (v := (.int .i64 (cmV C K us vs e))) rfl (by kernel_rfl) (by kernel_rfl) (by kernel_rfl) (fun _ _ _ h => h) (Or.inl ⟨by rfl, fun w _ => by simp [go_sem, execOp]⟩) hHeld ?_
  try simp only [Act.put, List.setIfInBounds_toArray, List.set_cons_zero, List.set_cons_succ]
  refine wpAnyH_take (i := 12) (v := (.int .i64 (cmC C K us vs e))) rfl (by kernel_rfl) (by kernel_rfl) (by kernel_rfl) (fun _ _ _ h => h) (Or.inl ⟨by rfl, fun w _ => by simp [go_sem, execOp]⟩) hHeld ?_
  try simp only [Act.put, List.setIfInBounds_toArray, List.set_cons_zero, List.set_cons_succ]
  refine wpAnyH_take (i := 13) (v := (.int .i64 (cmV C K us vs e))) rfl (by kernel_rfl) (by kernel_rfl) (by kernel_rfl) (fun _ _ _ h => h) (Or.inl ⟨by rfl, fun w _ => by simp [go_sem, execOp]⟩) hHeld ?_
  try simp only [Act.put, List.setIfInBounds_toArray, List.set_cons_zero, List.set_cons_succ]
  refine wpAnyH_take (i := 14) (v := (.int .i64 (cmC C K us vs e))) rfl (by kernel_rfl) (by kernel_rfl) (by kernel_rfl) (fun _ _ _ h => h) (Or.inl ⟨by rfl, fun w _ => by simp [go_sem, execOp]⟩) hHeld ?_
  try simp only [Act.put, List.setIfInBounds_toArray, List.set_cons_zero, List.set_cons_succ]
  refine wpAnyH_done (by kernel_rfl) ?_ _
  obtain ⟨HC7, HK7⟩ := hHeld
  go_wp2_with (refine wpList_load_blkG 28 _ _ HC7 Try.underlying28 (by kernel_rfl) rfl rfl (by rfl) ?_)
  go_at_call 16; refine (toChart_c C A c hn _ (by repeat (with_reducible first | exact HI7.out | assumption | refine Ints.drew ?_ | refine Ints.drewN _ ?_ | refine Ints.alloc _ ?_ | refine Ints.step (by assumption) ?_))).mono ?_; rintro r w8 ⟨g8, rfl, hg8, hB8, hb8⟩
  go_wp2_with (first | (refine wpList_store_blk (cs := #[.int .i64 C.dg, .int .i64 C.tn, .string C.nm, .slice (some ⟨g8, 0, none⟩) C.zs.length C.zs.length, .int .i64 C.wd, .int .i64 C.lf, .int .i64 C.rt]) 38 _ _ _ (Blk.new _ _ _) (by kernel_rfl) rfl (by simp [Value.oneCell']) rfl rfl rfl rfl ?_; rw [World.setRow_alloc_new]) | (refine wpList_load_blkG 28 _ _ (Blk.alloc _ (Blk.step hb8 HK7)) Try.underlying28 (by kernel_rfl) rfl rfl (by rfl) ?_))
  have HX8 : Blk (w8.alloc (.cells #[.int .i64 C.dg, .int .i64 C.tn, .string C.nm, .slice (some ⟨g8, 0, none⟩) C.zs.length C.zs.length, .int .i64 C.wd, .int .i64 C.lf, .int .i64 C.rt] 38)) w8.heap.size 38 #[.int .i64 C.dg, .int .i64 C.tn, .string C.nm, .slice (some ⟨g8, 0, none⟩) C.zs.length C.zs.length, .int .i64 C.wd, .int .i64 C.lf, .int .i64 C.rt] := Blk.new _ _ _
  have HJ8 : Hid (Ints (w8.alloc (.cells #[.int .i64 C.dg, .int .i64 C.tn, .string C.nm, .slice (some ⟨g8, 0, none⟩) C.zs.length C.zs.length, .int .i64 C.wd, .int .i64 C.lf, .int .i64 C.rt] 38)) (some ⟨g8, 0, none⟩) C.zs) := Ints.alloc _ hB8.ints
  have HC8 : Blk (w8.alloc (.cells #[.int .i64 C.dg, .int .i64 C.tn, .string C.nm, .slice (some ⟨g8, 0, none⟩) C.zs.length C.zs.length, .int .i64 C.wd, .int .i64 C.lf, .int .i64 C.rt] 38)) w.heap.size 28 #[.int .i64 C.dg, .int .i64 C.tn, .string C.nm, .slice A C.zs.length c, .int .i64 C.wd, .int .i64 C.lf, .int .i64 C.rt] := Blk.alloc _ (Blk.step hb8 HC7)
  have HK8 : Blk (w8.alloc (.cells #[.int .i64 C.dg, .int .i64 C.tn, .string C.nm, .slice (some ⟨g8, 0, none⟩) C.zs.length C.zs.length, .int .i64 C.wd, .int .i64 C.lf, .int .i64 C.rt] 38)) (w.heap.size + 1) 28 #[.int .i64 K.dg, .int .i64 K.tn, .string K.nm, .slice B K.zs.length b, .int .i64 K.wd, .int .i64 K.lf, .int .i64 K.rt] := Blk.alloc _ (Blk.step hb8 HK7)
  have hbel8 : Below w.heap.size w (w8.alloc (.cells #[.int .i64 C.dg, .int .i64 C.tn, .string C.nm, .slice (some ⟨g8, 0, none⟩) C.zs.length C.zs.length, .int .i64 C.wd, .int .i64 C.lf, .int .i64 C.rt] 38)) := by repeat (with_reducible first | exact Below.refl _ _ | assumption | refine Bel.alloc ?_ _ | refine Bel.step (by assumption) ?_ | refine Below.drew ?_ | refine Bel.drewN ?_ _ | refine Below.setCell ?_ (by first | exact Nat.le_refl _ | omega | (simp; done) | (simp; omega)) _)
  clear hb8 hB8 hg8 HC7 HK7 HI7 hbel7
  generalize w8.alloc (.cells #[.int .i64 C.dg, .int .i64 C.tn, .string C.nm, .slice (some ⟨g8, 0, none⟩) C.zs.length C.zs.length, .int .i64 C.wd, .int .i64 C.lf, .int .i64 C.rt] 38) = V at HX8 HJ8 HC8 HK8 hbel8 ⊢
  generalize w8.heap.size = Y at HX8 ⊢
  go_at_call 16; refine (toChart_c K B b kn _ (Ints.step hbel8 hB)).mono ?_; rintro r w9 ⟨g9, rfl, hg9, hB9, hb9⟩
  go_wp2_with (refine wpList_store_blk (cs := #[.int .i64 K.dg, .int .i64 K.tn, .string K.nm, .slice (some ⟨g9, 0, none⟩) K.zs.length K.zs.length, .int .i64 K.wd, .int .i64 K.lf, .int .i64 K.rt]) 38 _ _ _ (Blk.new _ _ _) (by kernel_rfl) rfl (by simp [Value.oneCell']) rfl rfl rfl rfl ?_; rw [World.setRow_alloc_new])
  have HZ9 : Blk (w9.alloc (.cells #[.int .i64 K.dg, .int .i64 K.tn, .string K.nm, .slice (some ⟨g9, 0, none⟩) K.zs.length K.zs.length, .int .i64 K.wd, .int .i64 K.lf, .int .i64 K.rt] 38)) w9.heap.size 38 #[.int .i64 K.dg, .int .i64 K.tn, .string K.nm, .slice (some ⟨g9, 0, none⟩) K.zs.length K.zs.length, .int .i64 K.wd, .int .i64 K.lf, .int .i64 K.rt] := Blk.new _ _ _
  have HL9 : Hid (Ints (w9.alloc (.cells #[.int .i64 K.dg, .int .i64 K.tn, .string K.nm, .slice (some ⟨g9, 0, none⟩) K.zs.length K.zs.length, .int .i64 K.wd, .int .i64 K.lf, .int .i64 K.rt] 38)) (some ⟨g9, 0, none⟩) K.zs) := Ints.alloc _ hB9.ints
  have HX9 : Blk (w9.alloc (.cells #[.int .i64 K.dg, .int .i64 K.tn, .string K.nm, .slice (some ⟨g9, 0, none⟩) K.zs.length K.zs.length, .int .i64 K.wd, .int .i64 K.lf, .int .i64 K.rt] 38)) Y 38 #[.int .i64 C.dg, .int .i64 C.tn, .string C.nm, .slice (some ⟨g8, 0, none⟩) C.zs.length C.zs.length, .int .i64 C.wd, .int .i64 C.lf, .int .i64 C.rt] := Blk.alloc _ (Blk.step hb9 HX8)
  have HJ9 : Hid (Ints (w9.alloc (.cells #[.int .i64 K.dg, .int .i64 K.tn, .string K.nm, .slice (some ⟨g9, 0, none⟩) K.zs.length K.zs.length, .int .i64 K.wd, .int .i64 K.lf, .int .i64 K.rt] 38)) (some ⟨g8, 0, none⟩) C.zs) := Ints.alloc _ (Ints.step hb9 HJ8.out)
  have HC9 : Blk (w9.alloc (.cells #[.int .i64 K.dg, .int .i64 K.tn, .string K.nm, .slice (some ⟨g9, 0, none⟩) K.zs.length K.zs.length, .int .i64 K.wd, .int .i64 K.lf, .int .i64 K.rt] 38)) w.heap.size 28 #[.int .i64 C.dg, .int .i64 C.tn, .string C.nm, .slice A C.zs.length c, .int .i64 C.wd, .int .i64 C.lf, .int .i64 C.rt] := Blk.alloc _ (Blk.step hb9 HC8)
  have HK9 : Blk (w9.alloc (.cells #[.int .i64 K.dg, .int .i64 K.tn, .string K.nm, .slice (some ⟨g9, 0, none⟩) K.zs.length K.zs.length, .int .i64 K.wd, .int .i64 K.lf, .int .i64 K.rt] 38)) (w.heap.size + 1) 28 #[.int .i64 K.dg, .int .i64 K.tn, .string K.nm, .slice B K.zs.length b, .int .i64 K.wd, .int .i64 K.lf, .int .i64 K.rt] := Blk.alloc _ (Blk.step hb9 HK8)
  have hbel9 : Below w.heap.size w (w9.alloc (.cells #[.int .i64 K.dg, .int .i64 K.tn, .string K.nm, .slice (some ⟨g9, 0, none⟩) K.zs.length K.zs.length, .int .i64 K.wd, .int .i64 K.lf, .int .i64 K.rt] 38)) := by repeat (with_reducible first | exact Below.refl _ _ | assumption | refine Bel.alloc ?_ _ | refine Bel.step (by assumption) ?_ | refine Below.drew ?_ | refine Bel.drewN ?_ _ | refine Below.setCell ?_ (by first | exact Nat.le_refl _ | omega | (simp; done) | (simp; omega)) _)
  clear hb9 hB9 hg9 HX8 HJ8 HC8 HK8 hbel8
  generalize w9.alloc (.cells #[.int .i64 K.dg, .int .i64 K.tn, .string K.nm, .slice (some ⟨g9, 0, none⟩) K.zs.length K.zs.length, .int .i64 K.wd, .int .i64 K.lf, .int .i64 K.rt] 38) = V9 at HZ9 HL9 HX9 HJ9 HC9 HK9 hbel9 ⊢
  generalize w9.heap.size = Z at HZ9 ⊢
  go_at_call 17; refine (toFigureS_c D d us hu _ (Prs.step hbel9 hD)).mono ?_; rintro r w10 ⟨rfl, hB10, hb10⟩
  generalize V9.heap.size = X1 at hB10 ⊢
  have HZ10 := Blk.step hb10 HZ9
  have HL10 := Ints.step hb10 HL9.out
  have HX10 := Blk.step hb10 HX9
  have HJ10 := Ints.step hb10 HJ9.out
  have HC10 := Blk.step hb10 HC9
  have HK10 := Blk.step hb10 HK9
  have hbel10 := Bel.step hb10 hbel9
  clear hb10 HZ9 HL9 HX9 HJ9 HC9 HK9 hbel9
  go_wp2_with fail
  go_at_call 17; refine (toFigureS_c E f vs hv _ (Prs.step hbel10 hE)).mono ?_; rintro r w11 ⟨rfl, hB11, hb11⟩
  generalize w10.heap.size = X2 at hB11 ⊢
  have HU11 := Blk.step hb11 hB10
  have HZ11 := Blk.step hb11 HZ10
  have HL11 := Ints.step hb11 HL10
  have HX11 := Blk.step hb11 HX10
  have HJ11 := Ints.step hb11 HJ10
  have HC11 := Blk.step hb11 HC10
  have HK11 := Blk.step hb11 HK10
  have hbel11 := Bel.step hb11 hbel10
  clear hb11 hB10 HZ10 HL10 HX10 HJ10 HC10 HK10 hbel10
  go_wp2_with (first | (refine wpList_load_blkG 38 _ _ HX11 Try.underlying38 (by kernel_rfl) rfl rfl (by rfl) ?_) | (refine wpList_load_blkG 38 _ _ HZ11 Try.underlying38 (by kernel_rfl) rfl rfl (by rfl) ?_))
  go_at_call 26; refine (CompareLayouts_I _ _ _ _ _ _ _ _ us _ _ vs e hn hm kn km hu hv _ HJ11 HL11 HU11.prs hB11.prs).mono ?_; rintro r w12 ⟨rfl, hb12⟩
  have HU12 := Blk.step hb12 HU11
  have HV12 := Blk.step hb12 hB11
  have HZ12 := Blk.step hb12 HZ11
  have HL12 := Ints.step hb12 HL11
  have HX12 := Blk.step hb12 HX11
  have HJ12 := Ints.step hb12 HJ11
  have HC12 := Blk.step hb12 HC11
  have HK12 := Blk.step hb12 HK11
  have hbel12 := Bel.step hb12 hbel11
  clear hb12 HU11 hB11 HZ11 HL11 HX11 HJ11 HC11 HK11 hbel11
  go_upto_region 22 with (fail)
  refine wp_region_held_drew (S := fun W => (Blk W Y 38 #[.int .i64 C.dg, .int .i64 C.tn, .string C.nm, .slice (some ⟨g8, 0, none⟩) C.zs.length C.zs.length, .int .i64 C.wd, .int .i64 C.lf, .int .i64 C.rt] ∧ Blk W w.heap.size 28 #[.int .i64 C.dg, .int .i64 C.tn, .string C.nm, .slice A C.zs.length c, .int .i64 C.wd, .int .i64 C.lf, .int .i64 C.rt]) ∧ (Blk W Z 38 #[.int .i64 K.dg, .int .i64 K.tn, .string K.nm, .slice (some ⟨g9, 0, none⟩) K.zs.length K.zs.length, .int .i64 K.wd, .int .i64 K.lf, .int .i64 K.rt] ∧ Blk W (w.heap.size + 1) 28 #[.int .i64 K.dg, .int .i64 K.tn, .string K.nm, .slice B K.zs.length b, .int .i64 K.wd, .int .i64 K.lf, .int .i64 K.rt]) ∧ Blk W X1 34 (icells (flat us)) ∧ Blk W X2 34 (icells (flat vs))) (by kernel_rfl) (⟨⟨Blk.drew HX12, Blk.drew HC12⟩, ⟨Blk.drew HZ12, Blk.drew HK12⟩, Blk.drew HU12, Blk.drew HV12⟩) (fun hHeld => ?_)
  have hbelA : Below w.heap.size w w12.drew := Below.drew hbel12
  have HJA : Ints w12.drew (some ⟨g8, 0, none⟩) C.zs := HJ12
  have HLA : Ints w12.drew (some ⟨g9, 0, none⟩) K.zs := HL12
  generalize w12.drew = wB at hbelA HJA HLA hHeld ⊢
  clear HU12 HV12 HZ12 HL12 HX12 HJ12 HC12 HK12 hbel12
  refine wpAnyH_take (i := 0) (v := .agg #[.int .i64 C.dg, .int .i64 C.tn, .string C.nm, .slice (some ⟨g8, 0, none⟩) C.zs.length C.zs.length, .int .i64 C.wd, .int .i64 C.lf, .int .i64 C.rt]) rfl (by kernel_rfl) (by kernel_rfl) (by kernel_rfl) (fun _ _ _ h => h) (yieldsIf_load_blk 38 _ (Y) (fun _ h => h.1.1) Try.underlying38 (by kernel_rfl) (by rfl) rfl rfl) hHeld ?_
  try simp only [Act.put, List.setIfInBounds_toArray, List.set_cons_zero, List.set_cons_succ]
  refine wpAnyH_take (i := 1) (v := .agg #[.int .i64 C.dg, .int .i64 C.tn, .string C.nm, .slice A C.zs.length c, .int .i64 C.wd, .int .i64 C.lf, .int .i64 C.rt]) rfl (by kernel_rfl) (by kernel_rfl) (by kernel_rfl) (fun _ _ _ h => h) (yieldsIf_load_blk 28 _ (w.heap.size) (fun _ h => h.1.2) Try.underlying28 (by kernel_rfl) (by rfl) rfl rfl) hHeld ?_
  try simp only [Act.put, List.setIfInBounds_toArray, List.set_cons_zero, List.set_cons_succ]
  refine wpAnyH_ready (rs := [2]) (by kernel_rfl) (by simp) ?_
  refine AllReadyH.cons rfl (fun K hK => ?_) AllReadyH.nil
  go_simp
  go_at_call 16; refine (toChart_c _ _ _ hn _ (Ints.step hbelA hA)).mono ?_; rintro e w13 ⟨g13, rfl, hg13, hB13, hb13⟩; obtain ⟨hc13, hf13, hz13⟩ := bel hb13; (try simp only [World.size_drew, World.cell?_drew, World.frozen?_drew] at hc13 hf13 hz13); (try simp only [World.heap_drewN, World.cell?_drewN, World.frozen?_drewN] at hc13 hf13 hz13); (try have hl13 : w.heap.size < w13.heap.size := by (have hq := hb13.size; (try simp at hq); omega)); (try have hm13 : w.heap.size + 1 < w13.heap.size := by (have hq := hb13.size; (try simp at hq); omega)); (try have hn133 : w.heap.size + 1 + 1 < w13.heap.size := by (have hq := hb13.size; (try simp at hq); omega)); (try have hp13 : b < w13.heap.size := by (have hq := hb13.size; (try simp at hq); omega)); (try have ho13 : b' < w13.heap.size := by (have hq := hb13.size; (try simp at hq); omega))
  go_wp2_with fail
  refine hK.out _ _ (⟨⟨Blk.step hb13 hHeld.1.1, Blk.step hb13 hHeld.1.2⟩, ⟨Blk.step hb13 hHeld.2.1.1, Blk.step hb13 hHeld.2.1.2⟩, Blk.step hb13 hHeld.2.2.1, Blk.step hb13 hHeld.2.2.2⟩) (fun hHeld => ?_)
  clear hK K
  try simp only [Act.put, List.setIfInBounds_toArray, List.set_cons_zero, List.set_cons_succ]
  have hbel13 := Bel.step hb13 hbelA
  have HJ13 := Ints.step hb13 HJA
  have HL13 := Ints.step hb13 HLA
  have HM13 := hB13.ints
  clear hb13 hc13 hf13 hz13 hB13 hg13 HJA HLA hbelA
  refine wpAnyH_ready (rs := [3]) (by kernel_rfl) (by simp) ?_
  refine AllReadyH.cons rfl (fun K hK => ?_) AllReadyH.nil
  go_simp
  go_at_call 19; refine (eqChart_c _ _ _ _ _ hn _ HJ13 HM13).mono ?_; rintro e w14 ⟨rfl, hb14⟩; obtain ⟨hc14, hf14, hz14⟩ := bel hb14; (try simp only [World.size_drew, World.cell?_drew, World.frozen?_drew] at hc14 hf14 hz14); (try simp only [World.heap_drewN, World.cell?_drewN, World.frozen?_drewN] at hc14 hf14 hz14); (try have hl14 : w.heap.size < w14.heap.size := by (have hq := hb14.size; (try simp at hq); omega)); (try have hm14 : w.heap.size + 1 < w14.heap.size := by (have hq := hb14.size; (try simp at hq); omega)); (try have hn144 : w.heap.size + 1 + 1 < w14.heap.size := by (have hq := hb14.size; (try simp at hq); omega)); (try have hp14 : b < w14.heap.size := by (have hq := hb14.size; (try simp at hq); omega)); (try have ho14 : b' < w14.heap.size := by (have hq := hb14.size; (try simp at hq); omega))
  go_wp2_with fail
  refine hK.out _ _ (⟨⟨Blk.step hb14 hHeld.1.1, Blk.step hb14 hHeld.1.2⟩, ⟨Blk.step hb14 hHeld.2.1.1, Blk.step hb14 hHeld.2.1.2⟩, Blk.step hb14 hHeld.2.2.1, Blk.step hb14 hHeld.2.2.2⟩) (fun hHeld => ?_)
  clear hK K
  try simp only [Act.put, List.setIfInBounds_toArray, List.set_cons_zero, List.set_cons_succ]
  have hbel14 := Bel.step hb14 hbel13
  have HL14 := Ints.step hb14 HL13
  clear hb14 hc14 hf14 hz14 HJ13 HL13 HM13 hbel13
  refine wpAnyH_take (i := 4) (v := (.bool false)) rfl (by kernel_rfl) (by kernel_rfl) (by kernel_rfl) (fun _ _ _ h => h) (Or.inl ⟨by rfl, fun w _ => by simp [go_sem, execOp]⟩) hHeld ?_
  try simp only [Act.put, List.setIfInBounds_toArray, List.set_cons_zero, List.set_cons_succ]
  refine wpAnyH_done (by kernel_rfl) ?_ _
  obtain ⟨_, ⟨HZ14, HK14⟩, HU14, HV14⟩ := hHeld
  go_upto_region 24 with (fail)
  refine wp_region_held_drew (S := fun W => (Blk W Z 38 #[.int .i64 K.dg, .int .i64 K.tn, .string K.nm, .slice (some ⟨g9, 0, none⟩) K.zs.length K.zs.length, .int .i64 K.wd, .int .i64 K.lf, .int .i64 K.rt] ∧ Blk W (w.heap.size + 1) 28 #[.int .i64 K.dg, .int .i64 K.tn, .string K.nm, .slice B K.zs.length b, .int .i64 K.wd, .int .i64 K.lf, .int .i64 K.rt]) ∧ Blk W X1 34 (icells (flat us)) ∧ Blk W X2 34 (icells (flat vs))) (by kernel_rfl) (⟨⟨Blk.drew HZ14, Blk.drew HK14⟩, Blk.drew HU14, Blk.drew HV14⟩) (fun hHeld => ?_)
  have hbelB : Below w.heap.size w w14.drew := Below.drew hbel14
  have HLB : Ints w14.drew (some ⟨g9, 0, none⟩) K.zs := HL14
  generalize w14.drew = wD at hbelB HLB hHeld ⊢
  clear HU14 HV14 HZ14 HL14 HK14 hbel14
  refine wpAnyH_take (i := 0) (v := .agg #[.int .i64 K.dg, .int .i64 K.tn, .string K.nm, .slice (some ⟨g9, 0, none⟩) K.zs.length K.zs.length, .int .i64 K.wd, .int .i64 K.lf, .int .i64 K.rt]) rfl (by kernel_rfl) (by kernel_rfl) (by kernel_rfl) (fun _ _ _ h => h) (yieldsIf_load_blk 38 _ (Z) (fun _ h => h.1.1) Try.underlying38 (by kernel_rfl) (by rfl) rfl rfl) hHeld ?_
  try simp only [Act.put, List.setIfInBounds_toArray, List.set_cons_zero, List.set_cons_succ]
  refine wpAnyH_take (i := 1) (v := .agg #[.int .i64 K.dg, .int .i64 K.tn, .string K.nm, .slice B K.zs.length b, .int .i64 K.wd, .int .i64 K.lf, .int .i64 K.rt]) rfl (by kernel_rfl) (by kernel_rfl) (by kernel_rfl) (fun _ _ _ h => h) (yieldsIf_load_blk 28 _ (w.heap.size + 1) (fun _ h => h.1.2) Try.underlying28 (by kernel_rfl) (by rfl) rfl rfl) hHeld ?_
  try simp only [Act.put, List.setIfInBounds_toArray, List.set_cons_zero, List.set_cons_succ]
  refine wpAnyH_ready (rs := [2]) (by kernel_rfl) (by simp) ?_
  refine AllReadyH.cons rfl (fun K hK => ?_) AllReadyH.nil
  go_simp
  go_at_call 16; refine (toChart_c _ _ _ kn _ (Ints.step hbelB hB)).mono ?_; rintro e w15 ⟨g15, rfl, hg15, hB15, hb15⟩; obtain ⟨hc15, hf15, hz15⟩ := bel hb15; (try simp only [World.size_drew, World.cell?_drew, World.frozen?_drew] at hc15 hf15 hz15); (try simp only [World.heap_drewN, World.cell?_drewN, World.frozen?_drewN] at hc15 hf15 hz15); (try have hl15 : w.heap.size < w15.heap.size := by (have hq := hb15.size; (try simp at hq); omega)); (try have hm15 : w.heap.size + 1 < w15.heap.size := by (have hq := hb15.size; (try simp at hq); omega)); (try have hn155 : w.heap.size + 1 + 1 < w15.heap.size := by (have hq := hb15.size; (try simp at hq); omega)); (try have hp15 : b < w15.heap.size := by (have hq := hb15.size; (try simp at hq); omega)); (try have ho15 : b' < w15.heap.size := by (have hq := hb15.size; (try simp at hq); omega))
  go_wp2_with fail
  refine hK.out _ _ (⟨⟨Blk.step hb15 hHeld.1.1, Blk.step hb15 hHeld.1.2⟩, Blk.step hb15 hHeld.2.1, Blk.step hb15 hHeld.2.2⟩) (fun hHeld => ?_)
  clear hK K
  try simp only [Act.put, List.setIfInBounds_toArray, List.set_cons_zero, List.set_cons_succ]
  have hbel15 := Bel.step hb15 hbelB
  have HL15 := Ints.step hb15 HLB
  have HM15 := hB15.ints
  clear hb15 hc15 hf15 hz15 hB15 hg15 HLB hbelB
  refine wpAnyH_ready (rs := [3]) (by kernel_rfl) (by simp) ?_
  refine AllReadyH.cons rfl (fun K hK => ?_) AllReadyH.nil
  go_simp
  go_at_call 19; refine (eqChart_c _ _ _ _ _ kn _ HL15 HM15).mono ?_; rintro e w16 ⟨rfl, hb16⟩; obtain ⟨hc16, hf16, hz16⟩ := bel hb16; (try simp only [World.size_drew, World.cell?_drew, World.frozen?_drew] at hc16 hf16 hz16); (try simp only [World.heap_drewN, World.cell?_drewN, World.frozen?_drewN] at hc16 hf16 hz16); (try have hl16 : w.heap.size < w16.heap.size := by (have hq := hb16.size; (try simp at hq); omega)); (try have hm16 : w.heap.size + 1 < w16.heap.size := by (have hq := hb16.size; (try simp at hq); omega)); (try have hn166 : w.heap.size + 1 + 1 < w16.heap.size := by (have hq := hb16.size; (try simp at hq); omega)); (try have hp16 : b < w16.heap.size := by (have hq := hb16.size; (try simp at hq); omega)); (try have ho16 : b' < w16.heap.size := by (have hq := hb16.size; (try simp at hq); omega))
  go_wp2_with fail
  refine hK.out _ _ (⟨⟨Blk.step hb16 hHeld.1.1, Blk.step hb16 hHeld.1.2⟩, Blk.step hb16 hHeld.2.1, Blk.step hb16 hHeld.2.2⟩) (fun hHeld => ?_)
  clear hK K
  try simp only [Act.put, List.setIfInBounds_toArray, List.set_cons_zero, List.set_cons_succ]
  have hbel16 := Bel.step hb16 hbel15
  clear hb16 hc16 hf16 hz16 HL15 HM15 hbel15
  refine wpAnyH_take (i := 4) (v := (.bool false)) rfl (by kernel_rfl) (by kernel_rfl) (by kernel_rfl) (fun _ _ _ h => h) (Or.inl ⟨by rfl, fun w _ => by simp [go_sem, execOp]⟩) hHeld ?_
  try simp only [Act.put, List.setIfInBounds_toArray, List.set_cons_zero, List.set_cons_succ]
  refine wpAnyH_done (by kernel_rfl) ?_ _
  obtain ⟨_, HXA3, HXB3⟩ := hHeld
  go_wp2_with fail
  go_at_call 17; refine (toFigureS_c D d us hu _ (Prs.step hbel16 hD)).mono ?_; rintro r w17 ⟨rfl, hB17, hb17⟩
  have HXA4 := Blk.step hb17 HXA3
  have HXB4 := Blk.step hb17 HXB3
  have hbel17 := Bel.step hb17 hbel16
  clear hb17 HXA3 HXB3
  go_wp2_with fail
  go_at_call 20; refine (eqFigureS_c _ _ _ _ us us hu hu _ HXA4.prs hB17.prs).mono ?_; rintro r w18 ⟨rfl, hb18⟩
  rw [eqL_self]
  have HXB5 := Blk.step hb18 HXB4
  have hbel18 := Bel.step hb18 hbel17
  clear hb18 HXA4 HXB4 hB17
  go_wp2_with fail
  go_at_call 17; refine (toFigureS_c E f vs hv _ (Prs.step hbel18 hE)).mono ?_; rintro r w19 ⟨rfl, hB19, hb19⟩
  have HXB6 := Blk.step hb19 HXB5
  have hbel19 := Bel.step hb19 hbel18
  clear hb19 HXB5
  go_wp2_with fail
  go_at_call 20; refine (eqFigureS_c _ _ _ _ vs vs hv hv _ HXB6.prs hB19.prs).mono ?_; rintro r w20 ⟨rfl, hb20⟩
  rw [eqL_self]
  have hbel20 := Bel.step hb20 hbel19
  clear hb20
  go_wp2
  go_ret
  exact ⟨rfl, hbel20⟩
end Go.Proofs.Ytkhcepkcdfpofaa
