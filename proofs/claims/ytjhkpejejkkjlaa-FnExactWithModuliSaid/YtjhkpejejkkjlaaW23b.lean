/- The statements on charts that are made anew, walked. No conditions. -/
import Derived.Test.YtjhkpejejkkjlaaProg
import Derived.Test.YtjhkpejejkkjlaaBase
import Derived.Test.YtjhkpejejkkjlaaL01
import Derived.Test.YtjhkpejejkkjlaaCp
import Derived.Test.YtjhkpejejkkjlaaCh
import Derived.Test.YtjhkpejejkkjlaaCm
import Derived.Test.YtjhkpejejkkjlaaL18
import Derived.Test.YtjhkpejejkkjlaaL23
import Derived.Test.YtjhkpejejkkjlaaL23b
import Derived.Test.YtjhkpejejkkjlaaL23c
import Derived.Test.YtjhkpejejkkjlaaW23
import Derived.WalkKit
import Derived.WalkSpells
import Derived.WalkLawsBesides
import Derived.Lib.Hide
import Derived.Deep.QuietTactic
import Derived.BigQuiet
import Derived.Deep.Draws
import Derived.Deep.RegionHeld3
namespace Go.Proofs.Ytjhkpejejkkjlaa
open Go.RowKit
set_option linter.unusedVariables false
/-- What lies in memory while a statement on a new chart runs. -/
structure St (w W : World) (T1 T2 T3 : TypeId) (C D : Ch) (A A3 A5 : Option Addr) (c k3 k5 b4 b6 b7 g4 B3 B5 : Nat) (z3 z5 : List Int) : Prop where
  bel : Below w.heap.size w W
  arg : Blk W w.heap.size T1 #[.int .i64 C.dg, .int .i64 C.tn, .string C.nm, .slice A C.zs.length c, .int .i64 C.wd, .int .i64 C.lf, .int .i64 C.rt]
  want : Blk W b4 T2 #[.int .i64 D.dg, .int .i64 D.tn, .string D.nm, .slice A3 D.zs.length k3, .int .i64 D.wd, .int .i64 D.lf, .int .i64 D.rt]
  x0 : Blk W b6 T2 #[.int .i64 C.dg, .int .i64 C.tn, .string C.nm, .slice (some ⟨g4, 0, none⟩) C.zs.length C.zs.length, .int .i64 C.wd, .int .i64 C.lf, .int .i64 C.rt]
  got : Blk W b7 T2 #[.int .i64 D.dg, .int .i64 D.tn, .string D.nm, .slice A5 D.zs.length k5, .int .i64 D.wd, .int .i64 D.lf, .int .i64 D.rt]
  own3 : Own W B3 T3 (.slice A3 D.zs.length k3) z3
  own5 : Own W B5 T3 (.slice A5 D.zs.length k5) z5
  ints : Ints w A C.zs
theorem St.step {w W W' : World} {T1 T2 T3 : TypeId} {C D : Ch} {A A3 A5 : Option Addr} {c k3 k5 b4 b6 b7 g4 B3 B5 : Nat} {z3 z5 : List Int} (hb : Below W.heap.size W W') (h : St w W T1 T2 T3 C D A A3 A5 c k3 k5 b4 b6 b7 g4 B3 B5 z3 z5) : St w W' T1 T2 T3 C D A A3 A5 c k3 k5 b4 b6 b7 g4 B3 B5 z3 z5 :=
  ⟨Bel.step hb h.bel, Blk.step hb h.arg, Blk.step hb h.want, Blk.step hb h.x0, Blk.step hb h.got, Own.step hb h.own3, Own.step hb h.own5, h.ints⟩
theorem St.cells {w W : World} {T1 T2 T3 : TypeId} {C D : Ch} {A A3 A5 : Option Addr} {c k3 k5 b4 b6 b7 g4 B3 B5 : Nat} {z3 z5 : List Int} (h : St w W T1 T2 T3 C D A A3 A5 c k3 k5 b4 b6 b7 g4 B3 B5 z3 z5) :
    (W.cell? ⟨w.heap.size, 0, none⟩ = some (.int .i64 C.dg) ∧ W.cell? ⟨w.heap.size, 1, none⟩ = some (.int .i64 C.tn) ∧ W.cell? ⟨w.heap.size, 2, none⟩ = some (.string C.nm) ∧ W.cell? ⟨w.heap.size, 3, none⟩ = some (.slice A C.zs.length c) ∧ W.cell? ⟨w.heap.size, 4, none⟩ = some (.int .i64 C.wd) ∧ W.cell? ⟨w.heap.size, 5, none⟩ = some (.int .i64 C.lf) ∧ W.cell? ⟨w.heap.size, 6, none⟩ = some (.int .i64 C.rt)) ∧ (W.cell? ⟨b4, 0, none⟩ = some (.int .i64 D.dg) ∧ W.cell? ⟨b4, 1, none⟩ = some (.int .i64 D.tn) ∧ W.cell? ⟨b4, 2, none⟩ = some (.string D.nm) ∧ W.cell? ⟨b4, 3, none⟩ = some (.slice A3 D.zs.length k3) ∧ W.cell? ⟨b4, 4, none⟩ = some (.int .i64 D.wd) ∧ W.cell? ⟨b4, 5, none⟩ = some (.int .i64 D.lf) ∧ W.cell? ⟨b4, 6, none⟩ = some (.int .i64 D.rt)) ∧ (W.cell? ⟨b6, 0, none⟩ = some (.int .i64 C.dg) ∧ W.cell? ⟨b6, 1, none⟩ = some (.int .i64 C.tn) ∧ W.cell? ⟨b6, 2, none⟩ = some (.string C.nm) ∧ W.cell? ⟨b6, 3, none⟩ = some (.slice (some ⟨g4, 0, none⟩) C.zs.length C.zs.length) ∧ W.cell? ⟨b6, 4, none⟩ = some (.int .i64 C.wd) ∧ W.cell? ⟨b6, 5, none⟩ = some (.int .i64 C.lf) ∧ W.cell? ⟨b6, 6, none⟩ = some (.int .i64 C.rt)) ∧ (W.cell? ⟨b7, 0, none⟩ = some (.int .i64 D.dg) ∧ W.cell? ⟨b7, 1, none⟩ = some (.int .i64 D.tn) ∧ W.cell? ⟨b7, 2, none⟩ = some (.string D.nm) ∧ W.cell? ⟨b7, 3, none⟩ = some (.slice A5 D.zs.length k5) ∧ W.cell? ⟨b7, 4, none⟩ = some (.int .i64 D.wd) ∧ W.cell? ⟨b7, 5, none⟩ = some (.int .i64 D.lf) ∧ W.cell? ⟨b7, 6, none⟩ = some (.int .i64 D.rt)) ∧ w.heap.size < W.heap.size ∧ b4 < W.heap.size ∧ b6 < W.heap.size ∧ b7 < W.heap.size :=
  ⟨h.arg.chart, h.want.chart, h.x0.chart, h.got.chart, h.arg.lt, h.want.lt, h.x0.lt, h.got.lt⟩
theorem St.grown {w W W' : World} {T1 T2 T3 : TypeId} {C D : Ch} {A A3 A5 : Option Addr} {c k3 k5 b4 b6 b7 g4 B3 B5 : Nat} {z3 z5 z5' : List Int} {row : Option Nat} (hg : W.grownBy W' row) (hr : ∀ k, row = some k → w.heap.size < k) (n4 : row ≠ some b4) (n6 : row ≠ some b6) (n7 : row ≠ some b7)
    (o3 : (Value.slice A3 D.zs.length k3).ownBlock = none ∨ (Value.slice A3 D.zs.length k3).ownBlock ≠ row) (h5 : Own W' B5 T3 (.slice A5 D.zs.length k5) z5') (h : St w W T1 T2 T3 C D A A3 A5 c k3 k5 b4 b6 b7 g4 B3 B5 z3 z5) : St w W' T1 T2 T3 C D A A3 A5 c k3 k5 b4 b6 b7 g4 B3 B5 z3 z5' :=
  ⟨Bel.grown h.bel hg (fun k hk => Nat.le_of_lt (hr k hk)), Blk.grown h.arg hg (fun e => Nat.lt_irrefl _ (hr _ e.symm)), Blk.grown h.want hg (fun e => n4 e.symm), Blk.grown h.x0 hg (fun e => n6 e.symm), Blk.grown h.got hg (fun e => n7 e.symm), Own.kept h.own3 hg o3, h5, h.ints⟩
theorem own_between {w : World} {B : Nat} {T : TypeId} {v : Value} {zs : List Int} (h : Own w B T v zs) {b : Nat} (hb : b < B ∨ w.heap.size ≤ b) : v.ownBlock ≠ some b := by
  intro e
  have := h.lt b e
  omega
set_option maxHeartbeats 1000000 in
theorem FnExactFlipChart_w (w : World) (C : Ch) (A : Option Addr) (c : Nat) (hl : C.zs.length ≤ 9223372036854775807) (hA : Ints w A C.zs) (hs : C.nm.size ≤ 9223372036854775807) :
    Calls Try.prog 10 #[.agg #[.int .i64 C.dg, .int .i64 C.tn, .string C.nm, .slice A C.zs.length c, .int .i64 C.wd, .int .i64 C.lf, .int .i64 C.rt]] w fun e w' => e = .returned (.bool true) ∧ Below w.heap.size w w' := by
  by_cases hz : C.nm.size + C.zs.length ≤ 1048576
  · have HZ := Lib.hid (sz2_ok hz)
    have hn : C.zs.length ≤ 1048576 := by omega
    have hm : C.nm.size ≤ 1048576 := by omega
    have hn0 : (0 : Int) ≤ 1048576 - C.nm.size - C.zs.length := by omega
    have hd : (flV C).zs.length ≤ 1048576 := by unfold flV; split <;> simp [ZC]; omega
    clear hz
    go_enter Try.func10, Try.ntmps10
    go_wp2_with fail
    go_at_call 15; refine (szChart_c _ _ _ _ (by omega) (by omega) (by assumption) (by assumption) _).mono ?_; rintro e w1 ⟨rfl, hb1⟩; obtain ⟨hc1, hf1, hz1⟩ := bel hb1; (try simp only [World.size_drew, World.cell?_drew, World.frozen?_drew, World.heap_drewN, World.cell?_drewN, World.frozen?_drewN] at hc1 hf1 hz1); (try have hl1 : w.heap.size < w1.heap.size := by (have hq := hb1.size; (try simp at hq); omega)); (try have hm1 : w.heap.size + 1 < w1.heap.size := by (have hq := hb1.size; (try simp at hq); omega)); (try have hn1 : w.heap.size + 1 + 1 < w1.heap.size := by (have hq := hb1.size; (try simp at hq); omega)); (try have hp1 : b < w1.heap.size := by (have hq := hb1.size; (try simp at hq); omega)); (try have ho1 : b' < w1.heap.size := by (have hq := hb1.size; (try simp at hq); omega))
    rw [HZ.out]
    have hbel1 : Below w.heap.size w w1 := by repeat (with_reducible first | exact Below.refl _ _ | assumption | refine Bel.alloc ?_ _ | refine Bel.step (by assumption) ?_ | refine Below.drew ?_ | refine Bel.drewN ?_ _ | refine Below.setCell ?_ (by first | exact Nat.le_refl _ | omega | (simp; done) | (simp; omega)) _)
    go_wp2_with fail
    go_at_call 17; refine (toChart_c _ _ _ hn _ (Ints.step hbel1 hA)).mono ?_; rintro e w2 ⟨g2, rfl, hg2, hB2, hb2⟩; obtain ⟨hc2, hf2, hz2⟩ := bel hb2; (try simp only [World.size_drew, World.cell?_drew, World.frozen?_drew, World.heap_drewN, World.cell?_drewN, World.frozen?_drewN] at hc2 hf2 hz2); (try have hl2 : w.heap.size < w2.heap.size := by (have hq := hb2.size; (try simp at hq); omega)); (try have hm2 : w.heap.size + 1 < w2.heap.size := by (have hq := hb2.size; (try simp at hq); omega)); (try have hn2 : w.heap.size + 1 + 1 < w2.heap.size := by (have hq := hb2.size; (try simp at hq); omega)); (try have hp2 : b < w2.heap.size := by (have hq := hb2.size; (try simp at hq); omega)); (try have ho2 : b' < w2.heap.size := by (have hq := hb2.size; (try simp at hq); omega))
    go_wp2_with fail
    go_at_call 44; refine (FlipChart_S _ _ _ hn hm _ hB2.ints).mono ?_; rintro e w3 ⟨A3, kk3, rfl, hO3, hb3⟩; obtain ⟨hc3, hf3, hz3⟩ := bel hb3; (try simp only [World.size_drew, World.cell?_drew, World.frozen?_drew, World.heap_drewN, World.cell?_drewN, World.frozen?_drewN] at hc3 hf3 hz3); (try have hl3 : w.heap.size < w3.heap.size := by (have hq := hb3.size; (try simp at hq); omega)); (try have hm3 : w.heap.size + 1 < w3.heap.size := by (have hq := hb3.size; (try simp at hq); omega)); (try have hn3 : w.heap.size + 1 + 1 < w3.heap.size := by (have hq := hb3.size; (try simp at hq); omega)); (try have hp3 : b < w3.heap.size := by (have hq := hb3.size; (try simp at hq); omega)); (try have ho3 : b' < w3.heap.size := by (have hq := hb3.size; (try simp at hq); omega))
    have hbel3 : Below w.heap.size w w3 := by repeat (with_reducible first | exact Below.refl _ _ | assumption | refine Bel.alloc ?_ _ | refine Bel.step (by assumption) ?_ | refine Below.drew ?_ | refine Bel.drewN ?_ _ | refine Below.setCell ?_ (by first | exact Nat.le_refl _ | omega | (simp; done) | (simp; omega)) _)
    go_wp2_with fail
    go_at_call 17; refine (toChart_c _ _ _ hn _ (Ints.alloc _ (Ints.step hbel3 hA))).mono ?_; rintro e w4 ⟨g4, rfl, hg4, hB4, hb4⟩; obtain ⟨hc4, hf4, hz4⟩ := bel hb4; (try simp only [World.size_drew, World.cell?_drew, World.frozen?_drew, World.heap_drewN, World.cell?_drewN, World.frozen?_drewN] at hc4 hf4 hz4); (try have hl4 : w.heap.size < w4.heap.size := by (have hq := hb4.size; (try simp at hq); omega)); (try have hm4 : w.heap.size + 1 < w4.heap.size := by (have hq := hb4.size; (try simp at hq); omega)); (try have hn4 : w.heap.size + 1 + 1 < w4.heap.size := by (have hq := hb4.size; (try simp at hq); omega)); (try have hp4 : b < w4.heap.size := by (have hq := hb4.size; (try simp at hq); omega)); (try have ho4 : b' < w4.heap.size := by (have hq := hb4.size; (try simp at hq); omega))
    have hP4 := Blk.step hb4 (Blk.alloc (.cells #[.int .i64 (flV C).dg, .int .i64 (flV C).tn, .string (flV C).nm, .slice A3 (flV C).zs.length kk3, .int .i64 (flV C).wd, .int .i64 (flV C).lf, .int .i64 (flV C).rt] 35) (Blk.step hb3 (Blk.step hb2 (Blk.step hb1 (Blk.new w 28 #[.int .i64 C.dg, .int .i64 C.tn, .string C.nm, .slice A C.zs.length c, .int .i64 C.wd, .int .i64 C.lf, .int .i64 C.rt])))))
    have hW4 := Blk.step hb4 (Blk.new w3 35 #[.int .i64 (flV C).dg, .int .i64 (flV C).tn, .string (flV C).nm, .slice A3 (flV C).zs.length kk3, .int .i64 (flV C).wd, .int .i64 (flV C).lf, .int .i64 (flV C).rt])
    have hO4 := Own.step hb4 (Own.alloc _ hO3)
    have hbel4 : Below w.heap.size w w4 := by repeat (with_reducible first | exact Below.refl _ _ | assumption | refine Bel.alloc ?_ _ | refine Bel.step (by assumption) ?_ | refine Below.drew ?_ | refine Bel.drewN ?_ _ | refine Below.setCell ?_ (by first | exact Nat.le_refl _ | omega | (simp; done) | (simp; omega)) _)
    go_wp2_with fail
    go_at_call 45; refine (FlipChart_I _ _ _ hn hm _ (Ints.alloc _ hB4.ints)).mono ?_; rintro e w5 ⟨A5, kk5, rfl, hO5, hb5⟩; obtain ⟨hc5, hf5, hz5⟩ := bel hb5; (try simp only [World.size_drew, World.cell?_drew, World.frozen?_drew, World.heap_drewN, World.cell?_drewN, World.frozen?_drewN] at hc5 hf5 hz5); (try have hl5 : w.heap.size < w5.heap.size := by (have hq := hb5.size; (try simp at hq); omega)); (try have hm5 : w.heap.size + 1 < w5.heap.size := by (have hq := hb5.size; (try simp at hq); omega)); (try have hn5 : w.heap.size + 1 + 1 < w5.heap.size := by (have hq := hb5.size; (try simp at hq); omega)); (try have hp5 : b < w5.heap.size := by (have hq := hb5.size; (try simp at hq); omega)); (try have ho5 : b' < w5.heap.size := by (have hq := hb5.size; (try simp at hq); omega))
    have s1 := hb1.size
    have s2 := hb2.size
    have s3 := hb3.size
    have s4 := hb4.size
    have s5 := hb5.size
    have gl4 := hB4.lt
    simp only [World.size_alloc] at s1 s4 s5 hg4
    have hq0 : (0 : Int) ≤ (C.zs.length : Int) := by omega
    have hq1 : (0 : Int) ≤ ((flV C).zs.length : Int) := by omega
    have hO5b := hO5
    simp only [World.size_alloc] at hO5b
    have o35 : (Value.slice A3 (flV C).zs.length kk3).ownBlock = none ∨ (Value.slice A3 (flV C).zs.length kk3).ownBlock ≠ (Value.slice A5 (flV C).zs.length kk5).ownBlock := own_ne_own hO3 hO5b (by omega)
    have o3g : (Value.slice A3 (flV C).zs.length kk3).ownBlock = none ∨ (Value.slice A3 (flV C).zs.length kk3).ownBlock ≠ some g4 := own_ne_lo hO3 (by omega)
    have o5g : (Value.slice A5 (flV C).zs.length kk5).ownBlock = none ∨ (Value.slice A5 (flV C).zs.length kk5).ownBlock ≠ some g4 := own_ne_hi hO5b (by omega)
    have o50 : ∀ k, (Value.slice A5 (flV C).zs.length kk5).ownBlock = some k → w.heap.size < k := fun k hk => by have := (hO5b.lt k hk).1; omega
    have o54 : (Value.slice A5 (flV C).zs.length kk5).ownBlock ≠ some w3.heap.size := own_between hO5b (by omega)
    have o56 : (Value.slice A5 (flV C).zs.length kk5).ownBlock ≠ some w4.heap.size := own_between hO5b (by omega)
    have o57 : (Value.slice A5 (flV C).zs.length kk5).ownBlock ≠ some w5.heap.size := own_between hO5b (by omega)
    have hbel5 : Below w.heap.size w w5 := by repeat (with_reducible first | exact Below.refl _ _ | assumption | refine Bel.alloc ?_ _ | refine Bel.step (by assumption) ?_ | refine Below.drew ?_ | refine Bel.drewN ?_ _ | refine Below.setCell ?_ (by first | exact Nat.le_refl _ | omega | (simp; done) | (simp; omega)) _)
    have hS5 : St w (w5.alloc (.cells #[.int .i64 (flV C).dg, .int .i64 (flV C).tn, .string (flV C).nm, .slice A5 (flV C).zs.length kk5, .int .i64 (flV C).wd, .int .i64 (flV C).lf, .int .i64 (flV C).rt] 35)) 28 35 2 C (flV C) A A3 A5 c kk3 kk5 w3.heap.size w4.heap.size w5.heap.size g4 w2.heap.size (w4.heap.size + 1) (flV C).zs (flV C).zs :=
      ⟨Bel.alloc hbel5 _, Blk.alloc _ (Blk.step hb5 (Blk.alloc _ hP4)), Blk.alloc _ (Blk.step hb5 (Blk.alloc _ hW4)), Blk.alloc _ (Blk.step hb5 (Blk.new w4 _ _)), Blk.new _ _ _, Own.alloc _ (Own.step hb5 (Own.alloc _ hO4)), Own.alloc _ hO5b, hA⟩
    have hX5 := Blk.alloc (.cells #[.int .i64 (flV C).dg, .int .i64 (flV C).tn, .string (flV C).nm, .slice A5 (flV C).zs.length kk5, .int .i64 (flV C).wd, .int .i64 (flV C).lf, .int .i64 (flV C).rt] 35) (Blk.step hb5 (Blk.alloc (.cells #[.int .i64 C.dg, .int .i64 C.tn, .string C.nm, .slice (some ⟨g4, 0, none⟩) C.zs.length C.zs.length, .int .i64 C.wd, .int .i64 C.lf, .int .i64 C.rt] 35) hB4))
    obtain ⟨v0, v1, v2, v3, v4, v5, v6⟩ := Blk.chart (Blk.step hb5 (Blk.alloc (.cells #[.int .i64 C.dg, .int .i64 C.tn, .string C.nm, .slice (some ⟨g4, 0, none⟩) C.zs.length C.zs.length, .int .i64 C.wd, .int .i64 C.lf, .int .i64 C.rt] 35) hW4))
    have lw : w3.heap.size < w5.heap.size := by omega
    clear hb1 hc1 hf1 hz1 hb2 hc2 hf2 hz2 hb3 hc3 hf3 hz3 hb4 hc4 hf4 hz4 hb5 hc5 hf5 hz5 hP4 hW4 hB2 hB4 hO3 hO4 hO5
    go_wp2_with fail
    go_at_call 19; refine (eqChart_c (flV C) _ _ _ _ hd _ hS5.own5.ints hS5.own3.ints).mono ?_; rintro e w6 ⟨rfl, hb6⟩; obtain ⟨hc6, hf6, hz6⟩ := bel hb6; (try simp only [World.size_drew, World.cell?_drew, World.frozen?_drew, World.heap_drewN, World.cell?_drewN, World.frozen?_drewN] at hc6 hf6 hz6); (try have hl6 : w.heap.size < w6.heap.size := by (have hq := hb6.size; (try simp at hq); omega)); (try have hm6 : w.heap.size + 1 < w6.heap.size := by (have hq := hb6.size; (try simp at hq); omega)); (try have hn6 : w.heap.size + 1 + 1 < w6.heap.size := by (have hq := hb6.size; (try simp at hq); omega)); (try have hp6 : b < w6.heap.size := by (have hq := hb6.size; (try simp at hq); omega)); (try have ho6 : b' < w6.heap.size := by (have hq := hb6.size; (try simp at hq); omega))
    have hS6 := St.step hb6 hS5
    have hX6 := Blk.step hb6 hX5
    obtain ⟨⟨p0, p1, p2, p3, p4, p5, p6⟩, _, ⟨x0, x1, x2, x3, x4, x5, x6⟩, _, i1, i2, i3, i4⟩ := hS6.cells
    have HI := Lib.hid (Ints.step hS6.bel hS6.ints)
    have HJ := Lib.hid hX6.ints
    clear hS5 hX5 hc6 hf6 hz6 hb6
    go_wp2
    go_region_held3 (fun w' => (w'.cell? ⟨w.heap.size, 0, none⟩ = some (.int .i64 C.dg) ∧ w'.cell? ⟨w.heap.size, 1, none⟩ = some (.int .i64 C.tn) ∧ w'.cell? ⟨w.heap.size, 2, none⟩ = some (.string C.nm) ∧ w'.cell? ⟨w.heap.size, 3, none⟩ = some (.slice A C.zs.length c) ∧ w'.cell? ⟨w.heap.size, 4, none⟩ = some (.int .i64 C.wd) ∧ w'.cell? ⟨w.heap.size, 5, none⟩ = some (.int .i64 C.lf) ∧ w'.cell? ⟨w.heap.size, 6, none⟩ = some (.int .i64 C.rt)) ∧ w'.cell? ⟨w4.heap.size, 0, none⟩ = some (.int .i64 C.dg) ∧ w'.cell? ⟨w4.heap.size, 1, none⟩ = some (.int .i64 C.tn) ∧ w'.cell? ⟨w4.heap.size, 2, none⟩ = some (.string C.nm) ∧ w'.cell? ⟨w4.heap.size, 3, none⟩ = some (.slice (some ⟨g4, 0, none⟩) C.zs.length C.zs.length) ∧ w'.cell? ⟨w4.heap.size, 4, none⟩ = some (.int .i64 C.wd) ∧ w'.cell? ⟨w4.heap.size, 5, none⟩ = some (.int .i64 C.lf) ∧ w'.cell? ⟨w4.heap.size, 6, none⟩ = some (.int .i64 C.rt)) (simp [go_sem, *])
        (first | (go_at_call 17; refine (toChart_c _ _ _ hn _ (by repeat (with_reducible first | exact HI.out | assumption | refine Ints.drew ?_ | refine Ints.drewN _ ?_ | refine Ints.alloc _ ?_ | refine Ints.step (by assumption) ?_))).mono ?_; rintro e w1 ⟨g1, rfl, hg1, hB1, hb1⟩; obtain ⟨hc1, hf1, hz1⟩ := bel hb1; (try simp only [World.size_drew, World.cell?_drew, World.frozen?_drew, World.heap_drewN, World.cell?_drewN, World.frozen?_drewN] at hc1 hf1 hz1); (try have hl1 : w.heap.size < w1.heap.size := by (have hq := hb1.size; (try simp at hq); omega)); (try have hm1 : w.heap.size + 1 < w1.heap.size := by (have hq := hb1.size; (try simp at hq); omega)); (try have hn1 : w.heap.size + 1 + 1 < w1.heap.size := by (have hq := hb1.size; (try simp at hq); omega)); (try have hp1 : b < w1.heap.size := by (have hq := hb1.size; (try simp at hq); omega)); (try have ho1 : b' < w1.heap.size := by (have hq := hb1.size; (try simp at hq); omega))) | (go_at_call 19; refine (eqChart_c _ _ _ _ _ hn _ (by repeat (with_reducible first | exact HJ.out | assumption | refine Ints.drew ?_ | refine Ints.drewN _ ?_ | refine Ints.alloc _ ?_ | refine Ints.step (by assumption) ?_)) (by repeat (with_reducible first | exact hB1.ints | refine Ints.drewN _ ?_ | refine Ints.drew ?_))).mono ?_; rintro e w1 ⟨rfl, hb1⟩; obtain ⟨hc1, hf1, hz1⟩ := bel hb1; (try simp only [World.size_drew, World.cell?_drew, World.frozen?_drew, World.heap_drewN, World.cell?_drewN, World.frozen?_drewN] at hc1 hf1 hz1); (try have hl1 : w.heap.size < w1.heap.size := by (have hq := hb1.size; (try simp at hq); omega)); (try have hm1 : w.heap.size + 1 < w1.heap.size := by (have hq := hb1.size; (try simp at hq); omega)); (try have hn1 : w.heap.size + 1 + 1 < w1.heap.size := by (have hq := hb1.size; (try simp at hq); omega)); (try have hp1 : b < w1.heap.size := by (have hq := hb1.size; (try simp at hq); omega)); (try have ho1 : b' < w1.heap.size := by (have hq := hb1.size; (try simp at hq); omega))))
    have hb8 : Below w6.heap.size w6 w1 := by repeat (with_reducible first | exact Below.refl _ _ | assumption | refine Bel.alloc ?_ _ | refine Bel.step (by assumption) ?_ | refine Below.drew ?_ | refine Bel.drewN ?_ _ | refine Below.setCell ?_ (by first | exact Nat.le_refl _ | omega | (simp; done) | (simp; omega)) _)
    have hS8 := St.step hb8 hS6
    have hX8 := Blk.own (Blk.step hb8 hX6) (by unfold maxLen; omega) 0 (Nat.zero_le _)
    clear hS6 hX6 HI HJ
    clear p0 p1 p2 p3 p4 p5 p6 x0 x1 x2 x3 x4 x5 x6 i1 i2 i3 i4
    obtain ⟨_, _, ⟨x0, x1, x2, x3, x4, x5, x6⟩, _, i1, i2, i3, i4⟩ := hS8.cells
    go_wp2_with fail
    refine (markChart_c C _ _ _ _ (by omega) (by omega) (by omega) _ hX8).mono ?_; rintro e w9 ⟨rfl, hX9, hg9⟩
    have hg9b : w1.grownBy w9 (some g4) := hg9
    have hS9 := St.grown hg9b (fun k hk => by cases hk; omega) (fun h => by injection h; omega) (fun h => by injection h; omega) (fun h => by injection h; omega) o3g (Own.kept hS8.own5 hg9b o5g) hS8
    clear hX8 hX9 hg9 hg9b hS8 x0 x1 x2 x3 x4 x5 x6 i1 i2 i3 i4
    obtain ⟨⟨p0, p1, p2, p3, p4, p5, p6⟩, ⟨v0, v1, v2, v3, v4, v5, v6⟩, _, ⟨y0, y1, y2, y3, y4, y5, y6⟩, i1, i2, i3, i4⟩ := hS9.cells
    go_wp2_with fail
    go_at_call 19; refine (eqChart_c (flV C) _ _ _ _ hd _ hS9.own5.ints hS9.own3.ints).mono ?_; rintro e w10 ⟨rfl, hb10⟩; obtain ⟨hc10, hf10, hz10⟩ := bel hb10; (try simp only [World.size_drew, World.cell?_drew, World.frozen?_drew, World.heap_drewN, World.cell?_drewN, World.frozen?_drewN] at hc10 hf10 hz10); (try have hl10 : w.heap.size < w10.heap.size := by (have hq := hb10.size; (try simp at hq); omega)); (try have hm10 : w.heap.size + 1 < w10.heap.size := by (have hq := hb10.size; (try simp at hq); omega)); (try have hn100 : w.heap.size + 1 + 1 < w10.heap.size := by (have hq := hb10.size; (try simp at hq); omega)); (try have hp10 : b < w10.heap.size := by (have hq := hb10.size; (try simp at hq); omega)); (try have ho10 : b' < w10.heap.size := by (have hq := hb10.size; (try simp at hq); omega))
    have hS10 := St.step hb10 hS9
    clear hS9 hb10 hc10 hf10 hz10 p0 p1 p2 p3 p4 p5 p6 v0 v1 v2 v3 v4 v5 v6 y0 y1 y2 y3 y4 y5 y6 i1 i2 i3 i4
    obtain ⟨_, _, _, ⟨y0, y1, y2, y3, y4, y5, y6⟩, i1, i2, i3, i4⟩ := hS10.cells
    go_wp2_with fail
    refine (markChart_c (flV C) _ _ _ _ (by omega) (by omega) (by omega) _ hS10.own5).mono ?_; rintro e w11 ⟨rfl, hM11, hg11⟩
    have hS11 := St.grown hg11 o50 o54 o56 o57 o35 hM11 hS10
    clear hS10 hM11 hg11 y0 y1 y2 y3 y4 y5 y6 i1 i2 i3 i4
    obtain ⟨_, _, _, ⟨y0, y1, y2, y3, y4, y5, y6⟩, i1, i2, i3, i4⟩ := hS11.cells
    go_wp2_with fail
    refine (heldChart_c (flV C) _ (flV C).zs.length _ _ (by omega) (by omega) (by omega) _ hS11.own5).mono ?_; rintro e w12 ⟨rfl, hb12⟩
    have hS12 := St.step hb12 hS11
    clear hS11 hb12 y0 y1 y2 y3 y4 y5 y6 i1 i2 i3 i4
    obtain ⟨⟨p0, p1, p2, p3, p4, p5, p6⟩, _, _, _, i1, i2, i3, i4⟩ := hS12.cells
    go_wp2_with fail
    go_at_call 17; refine (toChart_c _ _ _ hn _ (Ints.step hS12.bel hS12.ints)).mono ?_; rintro e w13 ⟨g13, rfl, hg13, hB13, hb13⟩; obtain ⟨hc13, hf13, hz13⟩ := bel hb13; (try simp only [World.size_drew, World.cell?_drew, World.frozen?_drew, World.heap_drewN, World.cell?_drewN, World.frozen?_drewN] at hc13 hf13 hz13); (try have hl13 : w.heap.size < w13.heap.size := by (have hq := hb13.size; (try simp at hq); omega)); (try have hm13 : w.heap.size + 1 < w13.heap.size := by (have hq := hb13.size; (try simp at hq); omega)); (try have hn133 : w.heap.size + 1 + 1 < w13.heap.size := by (have hq := hb13.size; (try simp at hq); omega)); (try have hp13 : b < w13.heap.size := by (have hq := hb13.size; (try simp at hq); omega)); (try have ho13 : b' < w13.heap.size := by (have hq := hb13.size; (try simp at hq); omega))
    have hS13 := St.step hb13 hS12
    clear hS12 hb13 hc13 hf13 hz13 p0 p1 p2 p3 p4 p5 p6 i1 i2 i3 i4
    go_wp2_with fail
    go_at_call 45; refine (FlipChart_I _ _ _ hn hm _ hB13.ints).mono ?_; rintro e w14 ⟨A14, kk14, rfl, hO14, hb14⟩; obtain ⟨hc14, hf14, hz14⟩ := bel hb14; (try simp only [World.size_drew, World.cell?_drew, World.frozen?_drew, World.heap_drewN, World.cell?_drewN, World.frozen?_drewN] at hc14 hf14 hz14); (try have hl14 : w.heap.size < w14.heap.size := by (have hq := hb14.size; (try simp at hq); omega)); (try have hm14 : w.heap.size + 1 < w14.heap.size := by (have hq := hb14.size; (try simp at hq); omega)); (try have hn144 : w.heap.size + 1 + 1 < w14.heap.size := by (have hq := hb14.size; (try simp at hq); omega)); (try have hp14 : b < w14.heap.size := by (have hq := hb14.size; (try simp at hq); omega)); (try have ho14 : b' < w14.heap.size := by (have hq := hb14.size; (try simp at hq); omega))
    have hS14 := St.step hb14 hS13
    obtain ⟨_, ⟨v0, v1, v2, v3, v4, v5, v6⟩, _, _, i1, i2, i3, i4⟩ := hS14.cells
    have hS15 := St.step (Bel.alloc (Below.refl _ _) (.cells #[.int .i64 (flV C).dg, .int .i64 (flV C).tn, .string (flV C).nm, .slice A14 (flV C).zs.length kk14, .int .i64 (flV C).wd, .int .i64 (flV C).lf, .int .i64 (flV C).rt] 35)) hS14
    clear hS13 hb14 hc14 hf14 hz14 hS14 hB13
    go_wp2_with fail
    go_at_call 19; refine (eqChart_c (flV C) _ _ _ _ hd _ (Own.alloc _ hO14).ints hS15.own3.ints).mono ?_; rintro e w15 ⟨rfl, hb15⟩; obtain ⟨hc15, hf15, hz15⟩ := bel hb15; (try simp only [World.size_drew, World.cell?_drew, World.frozen?_drew, World.heap_drewN, World.cell?_drewN, World.frozen?_drewN] at hc15 hf15 hz15); (try have hl15 : w.heap.size < w15.heap.size := by (have hq := hb15.size; (try simp at hq); omega)); (try have hm15 : w.heap.size + 1 < w15.heap.size := by (have hq := hb15.size; (try simp at hq); omega)); (try have hn155 : w.heap.size + 1 + 1 < w15.heap.size := by (have hq := hb15.size; (try simp at hq); omega)); (try have hp15 : b < w15.heap.size := by (have hq := hb15.size; (try simp at hq); omega)); (try have ho15 : b' < w15.heap.size := by (have hq := hb15.size; (try simp at hq); omega))
    have hS16 := St.step hb15 hS15
    clear hS15 hb15 hc15 hf15 hz15 v0 v1 v2 v3 v4 v5 v6 i1 i2 i3 i4
    obtain ⟨_, _, _, ⟨y0, y1, y2, y3, y4, y5, y6⟩, i1, i2, i3, i4⟩ := hS16.cells
    go_wp2_with fail
    refine (heldChart_c (flV C) _ (flV C).zs.length _ _ (by omega) (by omega) (by omega) _ hS16.own5).mono ?_; rintro e w17 ⟨rfl, hb17⟩
    have hS17 := St.step hb17 hS16
    go_wp2
    go_ret
    exact ⟨rfl, hS17.bel⟩
  · have HZ := Lib.hid (sz2_no hz)
    go_enter Try.func10, Try.ntmps10
    go_wp2_with fail
    go_at_call 15; refine (szChart_c _ _ _ _ (by omega) (by omega) (by assumption) (by assumption) _).mono ?_; rintro e w1 ⟨rfl, hb1⟩; obtain ⟨hc1, hf1, hz1⟩ := bel hb1; (try simp only [World.size_drew, World.cell?_drew, World.frozen?_drew, World.heap_drewN, World.cell?_drewN, World.frozen?_drewN] at hc1 hf1 hz1); (try have hl1 : w.heap.size < w1.heap.size := by (have hq := hb1.size; (try simp at hq); omega)); (try have hm1 : w.heap.size + 1 < w1.heap.size := by (have hq := hb1.size; (try simp at hq); omega)); (try have hn1 : w.heap.size + 1 + 1 < w1.heap.size := by (have hq := hb1.size; (try simp at hq); omega)); (try have hp1 : b < w1.heap.size := by (have hq := hb1.size; (try simp at hq); omega)); (try have ho1 : b' < w1.heap.size := by (have hq := hb1.size; (try simp at hq); omega))
    rw [HZ.out]
    go_wp2
    go_ret
    exact ⟨rfl, by repeat (with_reducible first | exact Below.refl _ _ | assumption | refine Bel.alloc ?_ _ | refine Bel.step (by assumption) ?_ | refine Below.drew ?_ | refine Bel.drewN ?_ _ | refine Below.setCell ?_ (by first | exact Nat.le_refl _ | omega | (simp; done) | (simp; omega)) _)⟩
set_option maxHeartbeats 1000000 in
theorem FnExactWithModuli_w (w : World) (C : Ch) (A : Option Addr) (c : Nat) (hl : C.zs.length ≤ 9223372036854775807) (hA : Ints w A C.zs) (hs : C.nm.size ≤ 9223372036854775807) (x : Int) (g1 : (Lit.int .i64 x).wf = true) (y : Int) (g2 : (Lit.int .i64 y).wf = true) :
    Calls Try.prog 11 #[.agg #[.int .i64 C.dg, .int .i64 C.tn, .string C.nm, .slice A C.zs.length c, .int .i64 C.wd, .int .i64 C.lf, .int .i64 C.rt], .int .i64 x, .int .i64 y] w fun e w' => e = .returned (.bool true) ∧ Below w.heap.size w w' := by
  by_cases hz : C.nm.size + C.zs.length ≤ 1048576
  · have HZ := Lib.hid (sz2_ok hz)
    have hn : C.zs.length ≤ 1048576 := by omega
    have hm : C.nm.size ≤ 1048576 := by omega
    have hn0 : (0 : Int) ≤ 1048576 - C.nm.size - C.zs.length := by omega
    have hd : (wmV C x y).zs.length ≤ 1048576 := by unfold wmV; split <;> simp [ZC]; omega
    clear hz
    go_enter Try.func11, Try.ntmps11
    go_wp2_with fail
    go_at_call 15; refine (szChart_c _ _ _ _ (by omega) (by omega) (by assumption) (by assumption) _).mono ?_; rintro e w1 ⟨rfl, hb1⟩; obtain ⟨hc1, hf1, hz1⟩ := bel hb1; (try simp only [World.size_drew, World.cell?_drew, World.frozen?_drew, World.heap_drewN, World.cell?_drewN, World.frozen?_drewN] at hc1 hf1 hz1); (try have hl1 : w.heap.size < w1.heap.size := by (have hq := hb1.size; (try simp at hq); omega)); (try have hm1 : w.heap.size + 1 < w1.heap.size := by (have hq := hb1.size; (try simp at hq); omega)); (try have hn1 : w.heap.size + 1 + 1 < w1.heap.size := by (have hq := hb1.size; (try simp at hq); omega)); (try have hp1 : b < w1.heap.size := by (have hq := hb1.size; (try simp at hq); omega)); (try have ho1 : b' < w1.heap.size := by (have hq := hb1.size; (try simp at hq); omega))
    rw [HZ.out]
    have hbel1 : Below w.heap.size w w1 := by repeat (with_reducible first | exact Below.refl _ _ | assumption | refine Bel.alloc ?_ _ | refine Bel.step (by assumption) ?_ | refine Below.drew ?_ | refine Bel.drewN ?_ _ | refine Below.setCell ?_ (by first | exact Nat.le_refl _ | omega | (simp; done) | (simp; omega)) _)
    go_wp2_with fail
    go_at_call 17; refine (toChart_c _ _ _ hn _ (Ints.step hbel1 hA)).mono ?_; rintro e w2 ⟨g2, rfl, hg2, hB2, hb2⟩; obtain ⟨hc2, hf2, hz2⟩ := bel hb2; (try simp only [World.size_drew, World.cell?_drew, World.frozen?_drew, World.heap_drewN, World.cell?_drewN, World.frozen?_drewN] at hc2 hf2 hz2); (try have hl2 : w.heap.size < w2.heap.size := by (have hq := hb2.size; (try simp at hq); omega)); (try have hm2 : w.heap.size + 1 < w2.heap.size := by (have hq := hb2.size; (try simp at hq); omega)); (try have hn2 : w.heap.size + 1 + 1 < w2.heap.size := by (have hq := hb2.size; (try simp at hq); omega)); (try have hp2 : b < w2.heap.size := by (have hq := hb2.size; (try simp at hq); omega)); (try have ho2 : b' < w2.heap.size := by (have hq := hb2.size; (try simp at hq); omega))
    go_wp2_with fail
    go_at_call 48; refine (WithModuli_S _ _ _ x y hn hm _ hB2.ints).mono ?_; rintro e w3 ⟨A3, kk3, rfl, hO3, hb3⟩; obtain ⟨hc3, hf3, hz3⟩ := bel hb3; (try simp only [World.size_drew, World.cell?_drew, World.frozen?_drew, World.heap_drewN, World.cell?_drewN, World.frozen?_drewN] at hc3 hf3 hz3); (try have hl3 : w.heap.size < w3.heap.size := by (have hq := hb3.size; (try simp at hq); omega)); (try have hm3 : w.heap.size + 1 < w3.heap.size := by (have hq := hb3.size; (try simp at hq); omega)); (try have hn3 : w.heap.size + 1 + 1 < w3.heap.size := by (have hq := hb3.size; (try simp at hq); omega)); (try have hp3 : b < w3.heap.size := by (have hq := hb3.size; (try simp at hq); omega)); (try have ho3 : b' < w3.heap.size := by (have hq := hb3.size; (try simp at hq); omega))
    have hbel3 : Below w.heap.size w w3 := by repeat (with_reducible first | exact Below.refl _ _ | assumption | refine Bel.alloc ?_ _ | refine Bel.step (by assumption) ?_ | refine Below.drew ?_ | refine Bel.drewN ?_ _ | refine Below.setCell ?_ (by first | exact Nat.le_refl _ | omega | (simp; done) | (simp; omega)) _)
    go_wp2_with fail
    go_at_call 17; refine (toChart_c _ _ _ hn _ (Ints.alloc _ (Ints.step hbel3 hA))).mono ?_; rintro e w4 ⟨g4, rfl, hg4, hB4, hb4⟩; obtain ⟨hc4, hf4, hz4⟩ := bel hb4; (try simp only [World.size_drew, World.cell?_drew, World.frozen?_drew, World.heap_drewN, World.cell?_drewN, World.frozen?_drewN] at hc4 hf4 hz4); (try have hl4 : w.heap.size < w4.heap.size := by (have hq := hb4.size; (try simp at hq); omega)); (try have hm4 : w.heap.size + 1 < w4.heap.size := by (have hq := hb4.size; (try simp at hq); omega)); (try have hn4 : w.heap.size + 1 + 1 < w4.heap.size := by (have hq := hb4.size; (try simp at hq); omega)); (try have hp4 : b < w4.heap.size := by (have hq := hb4.size; (try simp at hq); omega)); (try have ho4 : b' < w4.heap.size := by (have hq := hb4.size; (try simp at hq); omega))
    have hP4 := Blk.step hb4 (Blk.alloc (.cells #[.int .i64 (wmV C x y).dg, .int .i64 (wmV C x y).tn, .string (wmV C x y).nm, .slice A3 (wmV C x y).zs.length kk3, .int .i64 (wmV C x y).wd, .int .i64 (wmV C x y).lf, .int .i64 (wmV C x y).rt] 35) (Blk.step hb3 (Blk.step hb2 (Blk.step hb1 (Blk.new w 28 #[.int .i64 C.dg, .int .i64 C.tn, .string C.nm, .slice A C.zs.length c, .int .i64 C.wd, .int .i64 C.lf, .int .i64 C.rt])))))
    have hW4 := Blk.step hb4 (Blk.new w3 35 #[.int .i64 (wmV C x y).dg, .int .i64 (wmV C x y).tn, .string (wmV C x y).nm, .slice A3 (wmV C x y).zs.length kk3, .int .i64 (wmV C x y).wd, .int .i64 (wmV C x y).lf, .int .i64 (wmV C x y).rt])
    have hO4 := Own.step hb4 (Own.alloc _ hO3)
    have hbel4 : Below w.heap.size w w4 := by repeat (with_reducible first | exact Below.refl _ _ | assumption | refine Bel.alloc ?_ _ | refine Bel.step (by assumption) ?_ | refine Below.drew ?_ | refine Bel.drewN ?_ _ | refine Below.setCell ?_ (by first | exact Nat.le_refl _ | omega | (simp; done) | (simp; omega)) _)
    go_wp2_with fail
    go_at_call 49; refine (WithModuli_I _ _ _ x y hn hm _ (Ints.alloc _ hB4.ints)).mono ?_; rintro e w5 ⟨A5, kk5, rfl, hO5, hb5⟩; obtain ⟨hc5, hf5, hz5⟩ := bel hb5; (try simp only [World.size_drew, World.cell?_drew, World.frozen?_drew, World.heap_drewN, World.cell?_drewN, World.frozen?_drewN] at hc5 hf5 hz5); (try have hl5 : w.heap.size < w5.heap.size := by (have hq := hb5.size; (try simp at hq); omega)); (try have hm5 : w.heap.size + 1 < w5.heap.size := by (have hq := hb5.size; (try simp at hq); omega)); (try have hn5 : w.heap.size + 1 + 1 < w5.heap.size := by (have hq := hb5.size; (try simp at hq); omega)); (try have hp5 : b < w5.heap.size := by (have hq := hb5.size; (try simp at hq); omega)); (try have ho5 : b' < w5.heap.size := by (have hq := hb5.size; (try simp at hq); omega))
    have s1 := hb1.size
    have s2 := hb2.size
    have s3 := hb3.size
    have s4 := hb4.size
    have s5 := hb5.size
    have gl4 := hB4.lt
    simp only [World.size_alloc] at s1 s4 s5 hg4
    have hq0 : (0 : Int) ≤ (C.zs.length : Int) := by omega
    have hq1 : (0 : Int) ≤ ((wmV C x y).zs.length : Int) := by omega
    have hO5b := hO5
    simp only [World.size_alloc] at hO5b
    have o35 : (Value.slice A3 (wmV C x y).zs.length kk3).ownBlock = none ∨ (Value.slice A3 (wmV C x y).zs.length kk3).ownBlock ≠ (Value.slice A5 (wmV C x y).zs.length kk5).ownBlock := own_ne_own hO3 hO5b (by omega)
    have o3g : (Value.slice A3 (wmV C x y).zs.length kk3).ownBlock = none ∨ (Value.slice A3 (wmV C x y).zs.length kk3).ownBlock ≠ some g4 := own_ne_lo hO3 (by omega)
    have o5g : (Value.slice A5 (wmV C x y).zs.length kk5).ownBlock = none ∨ (Value.slice A5 (wmV C x y).zs.length kk5).ownBlock ≠ some g4 := own_ne_hi hO5b (by omega)
    have o50 : ∀ k, (Value.slice A5 (wmV C x y).zs.length kk5).ownBlock = some k → w.heap.size < k := fun k hk => by have := (hO5b.lt k hk).1; omega
    have o54 : (Value.slice A5 (wmV C x y).zs.length kk5).ownBlock ≠ some w3.heap.size := own_between hO5b (by omega)
    have o56 : (Value.slice A5 (wmV C x y).zs.length kk5).ownBlock ≠ some w4.heap.size := own_between hO5b (by omega)
    have o57 : (Value.slice A5 (wmV C x y).zs.length kk5).ownBlock ≠ some w5.heap.size := own_between hO5b (by omega)
    have hbel5 : Below w.heap.size w w5 := by repeat (with_reducible first | exact Below.refl _ _ | assumption | refine Bel.alloc ?_ _ | refine Bel.step (by assumption) ?_ | refine Below.drew ?_ | refine Bel.drewN ?_ _ | refine Below.setCell ?_ (by first | exact Nat.le_refl _ | omega | (simp; done) | (simp; omega)) _)
    have hS5 : St w (w5.alloc (.cells #[.int .i64 (wmV C x y).dg, .int .i64 (wmV C x y).tn, .string (wmV C x y).nm, .slice A5 (wmV C x y).zs.length kk5, .int .i64 (wmV C x y).wd, .int .i64 (wmV C x y).lf, .int .i64 (wmV C x y).rt] 35)) 28 35 2 C (wmV C x y) A A3 A5 c kk3 kk5 w3.heap.size w4.heap.size w5.heap.size g4 w2.heap.size (w4.heap.size + 1) (wmV C x y).zs (wmV C x y).zs :=
      ⟨Bel.alloc hbel5 _, Blk.alloc _ (Blk.step hb5 (Blk.alloc _ hP4)), Blk.alloc _ (Blk.step hb5 (Blk.alloc _ hW4)), Blk.alloc _ (Blk.step hb5 (Blk.new w4 _ _)), Blk.new _ _ _, Own.alloc _ (Own.step hb5 (Own.alloc _ hO4)), Own.alloc _ hO5b, hA⟩
    have hX5 := Blk.alloc (.cells #[.int .i64 (wmV C x y).dg, .int .i64 (wmV C x y).tn, .string (wmV C x y).nm, .slice A5 (wmV C x y).zs.length kk5, .int .i64 (wmV C x y).wd, .int .i64 (wmV C x y).lf, .int .i64 (wmV C x y).rt] 35) (Blk.step hb5 (Blk.alloc (.cells #[.int .i64 C.dg, .int .i64 C.tn, .string C.nm, .slice (some ⟨g4, 0, none⟩) C.zs.length C.zs.length, .int .i64 C.wd, .int .i64 C.lf, .int .i64 C.rt] 35) hB4))
    obtain ⟨v0, v1, v2, v3, v4, v5, v6⟩ := Blk.chart (Blk.step hb5 (Blk.alloc (.cells #[.int .i64 C.dg, .int .i64 C.tn, .string C.nm, .slice (some ⟨g4, 0, none⟩) C.zs.length C.zs.length, .int .i64 C.wd, .int .i64 C.lf, .int .i64 C.rt] 35) hW4))
    have lw : w3.heap.size < w5.heap.size := by omega
    clear hb1 hc1 hf1 hz1 hb2 hc2 hf2 hz2 hb3 hc3 hf3 hz3 hb4 hc4 hf4 hz4 hb5 hc5 hf5 hz5 hP4 hW4 hB2 hB4 hO3 hO4 hO5
    go_wp2_with fail
    go_at_call 19; refine (eqChart_c (wmV C x y) _ _ _ _ hd _ hS5.own5.ints hS5.own3.ints).mono ?_; rintro e w6 ⟨rfl, hb6⟩; obtain ⟨hc6, hf6, hz6⟩ := bel hb6; (try simp only [World.size_drew, World.cell?_drew, World.frozen?_drew, World.heap_drewN, World.cell?_drewN, World.frozen?_drewN] at hc6 hf6 hz6); (try have hl6 : w.heap.size < w6.heap.size := by (have hq := hb6.size; (try simp at hq); omega)); (try have hm6 : w.heap.size + 1 < w6.heap.size := by (have hq := hb6.size; (try simp at hq); omega)); (try have hn6 : w.heap.size + 1 + 1 < w6.heap.size := by (have hq := hb6.size; (try simp at hq); omega)); (try have hp6 : b < w6.heap.size := by (have hq := hb6.size; (try simp at hq); omega)); (try have ho6 : b' < w6.heap.size := by (have hq := hb6.size; (try simp at hq); omega))
    have hS6 := St.step hb6 hS5
    have hX6 := Blk.step hb6 hX5
    obtain ⟨⟨p0, p1, p2, p3, p4, p5, p6⟩, _, ⟨x0, x1, x2, x3, x4, x5, x6⟩, _, i1, i2, i3, i4⟩ := hS6.cells
    have HI := Lib.hid (Ints.step hS6.bel hS6.ints)
    have HJ := Lib.hid hX6.ints
    clear hS5 hX5 hc6 hf6 hz6 hb6
    go_wp2
    go_region_held3 (fun w' => (w'.cell? ⟨w.heap.size, 0, none⟩ = some (.int .i64 C.dg) ∧ w'.cell? ⟨w.heap.size, 1, none⟩ = some (.int .i64 C.tn) ∧ w'.cell? ⟨w.heap.size, 2, none⟩ = some (.string C.nm) ∧ w'.cell? ⟨w.heap.size, 3, none⟩ = some (.slice A C.zs.length c) ∧ w'.cell? ⟨w.heap.size, 4, none⟩ = some (.int .i64 C.wd) ∧ w'.cell? ⟨w.heap.size, 5, none⟩ = some (.int .i64 C.lf) ∧ w'.cell? ⟨w.heap.size, 6, none⟩ = some (.int .i64 C.rt)) ∧ w'.cell? ⟨w4.heap.size, 0, none⟩ = some (.int .i64 C.dg) ∧ w'.cell? ⟨w4.heap.size, 1, none⟩ = some (.int .i64 C.tn) ∧ w'.cell? ⟨w4.heap.size, 2, none⟩ = some (.string C.nm) ∧ w'.cell? ⟨w4.heap.size, 3, none⟩ = some (.slice (some ⟨g4, 0, none⟩) C.zs.length C.zs.length) ∧ w'.cell? ⟨w4.heap.size, 4, none⟩ = some (.int .i64 C.wd) ∧ w'.cell? ⟨w4.heap.size, 5, none⟩ = some (.int .i64 C.lf) ∧ w'.cell? ⟨w4.heap.size, 6, none⟩ = some (.int .i64 C.rt)) (simp [go_sem, *])
        (first | (go_at_call 17; refine (toChart_c _ _ _ hn _ (by repeat (with_reducible first | exact HI.out | assumption | refine Ints.drew ?_ | refine Ints.drewN _ ?_ | refine Ints.alloc _ ?_ | refine Ints.step (by assumption) ?_))).mono ?_; rintro e w1 ⟨g1, rfl, hg1, hB1, hb1⟩; obtain ⟨hc1, hf1, hz1⟩ := bel hb1; (try simp only [World.size_drew, World.cell?_drew, World.frozen?_drew, World.heap_drewN, World.cell?_drewN, World.frozen?_drewN] at hc1 hf1 hz1); (try have hl1 : w.heap.size < w1.heap.size := by (have hq := hb1.size; (try simp at hq); omega)); (try have hm1 : w.heap.size + 1 < w1.heap.size := by (have hq := hb1.size; (try simp at hq); omega)); (try have hn1 : w.heap.size + 1 + 1 < w1.heap.size := by (have hq := hb1.size; (try simp at hq); omega)); (try have hp1 : b < w1.heap.size := by (have hq := hb1.size; (try simp at hq); omega)); (try have ho1 : b' < w1.heap.size := by (have hq := hb1.size; (try simp at hq); omega))) | (go_at_call 19; refine (eqChart_c _ _ _ _ _ hn _ (by repeat (with_reducible first | exact HJ.out | assumption | refine Ints.drew ?_ | refine Ints.drewN _ ?_ | refine Ints.alloc _ ?_ | refine Ints.step (by assumption) ?_)) (by repeat (with_reducible first | exact hB1.ints | refine Ints.drewN _ ?_ | refine Ints.drew ?_))).mono ?_; rintro e w1 ⟨rfl, hb1⟩; obtain ⟨hc1, hf1, hz1⟩ := bel hb1; (try simp only [World.size_drew, World.cell?_drew, World.frozen?_drew, World.heap_drewN, World.cell?_drewN, World.frozen?_drewN] at hc1 hf1 hz1); (try have hl1 : w.heap.size < w1.heap.size := by (have hq := hb1.size; (try simp at hq); omega)); (try have hm1 : w.heap.size + 1 < w1.heap.size := by (have hq := hb1.size; (try simp at hq); omega)); (try have hn1 : w.heap.size + 1 + 1 < w1.heap.size := by (have hq := hb1.size; (try simp at hq); omega)); (try have hp1 : b < w1.heap.size := by (have hq := hb1.size; (try simp at hq); omega)); (try have ho1 : b' < w1.heap.size := by (have hq := hb1.size; (try simp at hq); omega))))
    have hb8 : Below w6.heap.size w6 w1 := by repeat (with_reducible first | exact Below.refl _ _ | assumption | refine Bel.alloc ?_ _ | refine Bel.step (by assumption) ?_ | refine Below.drew ?_ | refine Bel.drewN ?_ _ | refine Below.setCell ?_ (by first | exact Nat.le_refl _ | omega | (simp; done) | (simp; omega)) _)
    have hS8 := St.step hb8 hS6
    have hX8 := Blk.own (Blk.step hb8 hX6) (by unfold maxLen; omega) 0 (Nat.zero_le _)
    clear hS6 hX6 HI HJ
    clear p0 p1 p2 p3 p4 p5 p6 x0 x1 x2 x3 x4 x5 x6 i1 i2 i3 i4
    obtain ⟨_, _, ⟨x0, x1, x2, x3, x4, x5, x6⟩, _, i1, i2, i3, i4⟩ := hS8.cells
    go_wp2_with fail
    refine (markChart_c C _ _ _ _ (by omega) (by omega) (by omega) _ hX8).mono ?_; rintro e w9 ⟨rfl, hX9, hg9⟩
    have hg9b : w1.grownBy w9 (some g4) := hg9
    have hS9 := St.grown hg9b (fun k hk => by cases hk; omega) (fun h => by injection h; omega) (fun h => by injection h; omega) (fun h => by injection h; omega) o3g (Own.kept hS8.own5 hg9b o5g) hS8
    clear hX8 hX9 hg9 hg9b hS8 x0 x1 x2 x3 x4 x5 x6 i1 i2 i3 i4
    obtain ⟨⟨p0, p1, p2, p3, p4, p5, p6⟩, ⟨v0, v1, v2, v3, v4, v5, v6⟩, _, ⟨y0, y1, y2, y3, y4, y5, y6⟩, i1, i2, i3, i4⟩ := hS9.cells
    go_wp2_with fail
    go_at_call 19; refine (eqChart_c (wmV C x y) _ _ _ _ hd _ hS9.own5.ints hS9.own3.ints).mono ?_; rintro e w10 ⟨rfl, hb10⟩; obtain ⟨hc10, hf10, hz10⟩ := bel hb10; (try simp only [World.size_drew, World.cell?_drew, World.frozen?_drew, World.heap_drewN, World.cell?_drewN, World.frozen?_drewN] at hc10 hf10 hz10); (try have hl10 : w.heap.size < w10.heap.size := by (have hq := hb10.size; (try simp at hq); omega)); (try have hm10 : w.heap.size + 1 < w10.heap.size := by (have hq := hb10.size; (try simp at hq); omega)); (try have hn100 : w.heap.size + 1 + 1 < w10.heap.size := by (have hq := hb10.size; (try simp at hq); omega)); (try have hp10 : b < w10.heap.size := by (have hq := hb10.size; (try simp at hq); omega)); (try have ho10 : b' < w10.heap.size := by (have hq := hb10.size; (try simp at hq); omega))
    have hS10 := St.step hb10 hS9
    clear hS9 hb10 hc10 hf10 hz10 p0 p1 p2 p3 p4 p5 p6 v0 v1 v2 v3 v4 v5 v6 y0 y1 y2 y3 y4 y5 y6 i1 i2 i3 i4
    obtain ⟨_, _, _, ⟨y0, y1, y2, y3, y4, y5, y6⟩, i1, i2, i3, i4⟩ := hS10.cells
    go_wp2_with fail
    refine (markChart_c (wmV C x y) _ _ _ _ (by omega) (by omega) (by omega) _ hS10.own5).mono ?_; rintro e w11 ⟨rfl, hM11, hg11⟩
    have hS11 := St.grown hg11 o50 o54 o56 o57 o35 hM11 hS10
    clear hS10 hM11 hg11 y0 y1 y2 y3 y4 y5 y6 i1 i2 i3 i4
    obtain ⟨_, _, _, ⟨y0, y1, y2, y3, y4, y5, y6⟩, i1, i2, i3, i4⟩ := hS11.cells
    go_wp2_with fail
    refine (heldChart_c (wmV C x y) _ (wmV C x y).zs.length _ _ (by omega) (by omega) (by omega) _ hS11.own5).mono ?_; rintro e w12 ⟨rfl, hb12⟩
    have hS12 := St.step hb12 hS11
    clear hS11 hb12 y0 y1 y2 y3 y4 y5 y6 i1 i2 i3 i4
    obtain ⟨⟨p0, p1, p2, p3, p4, p5, p6⟩, _, _, _, i1, i2, i3, i4⟩ := hS12.cells
    go_wp2_with fail
    go_at_call 17; refine (toChart_c _ _ _ hn _ (Ints.step hS12.bel hS12.ints)).mono ?_; rintro e w13 ⟨g13, rfl, hg13, hB13, hb13⟩; obtain ⟨hc13, hf13, hz13⟩ := bel hb13; (try simp only [World.size_drew, World.cell?_drew, World.frozen?_drew, World.heap_drewN, World.cell?_drewN, World.frozen?_drewN] at hc13 hf13 hz13); (try have hl13 : w.heap.size < w13.heap.size := by (have hq := hb13.size; (try simp at hq); omega)); (try have hm13 : w.heap.size + 1 < w13.heap.size := by (have hq := hb13.size; (try simp at hq); omega)); (try have hn133 : w.heap.size + 1 + 1 < w13.heap.size := by (have hq := hb13.size; (try simp at hq); omega)); (try have hp13 : b < w13.heap.size := by (have hq := hb13.size; (try simp at hq); omega)); (try have ho13 : b' < w13.heap.size := by (have hq := hb13.size; (try simp at hq); omega))
    have hS13 := St.step hb13 hS12
    clear hS12 hb13 hc13 hf13 hz13 p0 p1 p2 p3 p4 p5 p6 i1 i2 i3 i4
    go_wp2_with fail
    go_at_call 49; refine (WithModuli_I _ _ _ x y hn hm _ hB13.ints).mono ?_; rintro e w14 ⟨A14, kk14, rfl, hO14, hb14⟩; obtain ⟨hc14, hf14, hz14⟩ := bel hb14; (try simp only [World.size_drew, World.cell?_drew, World.frozen?_drew, World.heap_drewN, World.cell?_drewN, World.frozen?_drewN] at hc14 hf14 hz14); (try have hl14 : w.heap.size < w14.heap.size := by (have hq := hb14.size; (try simp at hq); omega)); (try have hm14 : w.heap.size + 1 < w14.heap.size := by (have hq := hb14.size; (try simp at hq); omega)); (try have hn144 : w.heap.size + 1 + 1 < w14.heap.size := by (have hq := hb14.size; (try simp at hq); omega)); (try have hp14 : b < w14.heap.size := by (have hq := hb14.size; (try simp at hq); omega)); (try have ho14 : b' < w14.heap.size := by (have hq := hb14.size; (try simp at hq); omega))
    have hS14 := St.step hb14 hS13
    obtain ⟨_, ⟨v0, v1, v2, v3, v4, v5, v6⟩, _, _, i1, i2, i3, i4⟩ := hS14.cells
    have hS15 := St.step (Bel.alloc (Below.refl _ _) (.cells #[.int .i64 (wmV C x y).dg, .int .i64 (wmV C x y).tn, .string (wmV C x y).nm, .slice A14 (wmV C x y).zs.length kk14, .int .i64 (wmV C x y).wd, .int .i64 (wmV C x y).lf, .int .i64 (wmV C x y).rt] 35)) hS14
    clear hS13 hb14 hc14 hf14 hz14 hS14 hB13
    go_wp2_with fail
    go_at_call 19; refine (eqChart_c (wmV C x y) _ _ _ _ hd _ (Own.alloc _ hO14).ints hS15.own3.ints).mono ?_; rintro e w15 ⟨rfl, hb15⟩; obtain ⟨hc15, hf15, hz15⟩ := bel hb15; (try simp only [World.size_drew, World.cell?_drew, World.frozen?_drew, World.heap_drewN, World.cell?_drewN, World.frozen?_drewN] at hc15 hf15 hz15); (try have hl15 : w.heap.size < w15.heap.size := by (have hq := hb15.size; (try simp at hq); omega)); (try have hm15 : w.heap.size + 1 < w15.heap.size := by (have hq := hb15.size; (try simp at hq); omega)); (try have hn155 : w.heap.size + 1 + 1 < w15.heap.size := by (have hq := hb15.size; (try simp at hq); omega)); (try have hp15 : b < w15.heap.size := by (have hq := hb15.size; (try simp at hq); omega)); (try have ho15 : b' < w15.heap.size := by (have hq := hb15.size; (try simp at hq); omega))
    have hS16 := St.step hb15 hS15
    clear hS15 hb15 hc15 hf15 hz15 v0 v1 v2 v3 v4 v5 v6 i1 i2 i3 i4
    obtain ⟨_, _, _, ⟨y0, y1, y2, y3, y4, y5, y6⟩, i1, i2, i3, i4⟩ := hS16.cells
    go_wp2_with fail
    refine (heldChart_c (wmV C x y) _ (wmV C x y).zs.length _ _ (by omega) (by omega) (by omega) _ hS16.own5).mono ?_; rintro e w17 ⟨rfl, hb17⟩
    have hS17 := St.step hb17 hS16
    go_wp2
    go_ret
    exact ⟨rfl, hS17.bel⟩
  · have HZ := Lib.hid (sz2_no hz)
    go_enter Try.func11, Try.ntmps11
    go_wp2_with fail
    go_at_call 15; refine (szChart_c _ _ _ _ (by omega) (by omega) (by assumption) (by assumption) _).mono ?_; rintro e w1 ⟨rfl, hb1⟩; obtain ⟨hc1, hf1, hz1⟩ := bel hb1; (try simp only [World.size_drew, World.cell?_drew, World.frozen?_drew, World.heap_drewN, World.cell?_drewN, World.frozen?_drewN] at hc1 hf1 hz1); (try have hl1 : w.heap.size < w1.heap.size := by (have hq := hb1.size; (try simp at hq); omega)); (try have hm1 : w.heap.size + 1 < w1.heap.size := by (have hq := hb1.size; (try simp at hq); omega)); (try have hn1 : w.heap.size + 1 + 1 < w1.heap.size := by (have hq := hb1.size; (try simp at hq); omega)); (try have hp1 : b < w1.heap.size := by (have hq := hb1.size; (try simp at hq); omega)); (try have ho1 : b' < w1.heap.size := by (have hq := hb1.size; (try simp at hq); omega))
    rw [HZ.out]
    go_wp2
    go_ret
    exact ⟨rfl, by repeat (with_reducible first | exact Below.refl _ _ | assumption | refine Bel.alloc ?_ _ | refine Bel.step (by assumption) ?_ | refine Below.drew ?_ | refine Bel.drewN ?_ _ | refine Below.setCell ?_ (by first | exact Nat.le_refl _ | omega | (simp; done) | (simp; omega)) _)⟩
end Go.Proofs.Ytjhkpejejkkjlaa
