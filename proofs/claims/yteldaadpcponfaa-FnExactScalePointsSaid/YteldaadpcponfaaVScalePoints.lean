/- The statement on a list of points, walked. No conditions. -/
import Derived.Test.YteldaadpcponfaaProg
import Derived.Test.YteldaadpcponfaaBase
import Derived.Test.YteldaadpcponfaaRw
import Derived.Test.YteldaadpcponfaaL01
import Derived.Test.YteldaadpcponfaaCp
import Derived.Test.YteldaadpcponfaaCh
import Derived.Test.YteldaadpcponfaaCm
import Derived.Test.YteldaadpcponfaaL18
import Derived.Test.YteldaadpcponfaaL23
import Derived.Test.YteldaadpcponfaaL23b
import Derived.Test.YteldaadpcponfaaL03
import Derived.Test.YteldaadpcponfaaL23d
import Derived.Test.YteldaadpcponfaaL23e
import Derived.Test.YteldaadpcponfaaL23f
import Derived.Test.YteldaadpcponfaaL24
import Derived.Test.YteldaadpcponfaaL24b
import Derived.Test.YteldaadpcponfaaL23g
import Derived.Test.YteldaadpcponfaaL23h
import Derived.Test.YteldaadpcponfaaL23i
import Derived.Test.YteldaadpcponfaaL23j
import Derived.Test.YteldaadpcponfaaW23
import Derived.WalkKit
import Derived.WalkSpells
import Derived.WalkLawsBesides
import Derived.Lib.Hide
import Derived.Deep.QuietTactic
import Derived.BigQuiet
import Derived.Deep.Draws
import Derived.Deep.RegionHeld3
namespace Go.Proofs.Yteldaadpcponfaa
open Go.RowKit
set_option linter.unusedVariables false
theorem flat_cells (zs : List (Int × Int)) : (icells (flat zs)).toList = pcells zs := by
  unfold icells
  induction zs with
  | nil => rfl
  | cons p l ih => simp [pcells, flat, List.flatMap_cons] at ih ⊢; exact ih
theorem Blk.ownP {w : World} {g : Nat} {T : TypeId} {zs : List (Int × Int)} (h : Blk w g T (icells (flat zs))) (hl : zs.length ≤ maxLen) (B : Nat) (hB : B ≤ g) : OwnP w B T (.slice (some ⟨g, 0, none⟩) zs.length zs.length) zs :=
  ⟨by simp [pcells_len], .inr ⟨g, zs.length, icells (flat zs), rfl, hB, h, Nat.le_refl _, hl, by rw [← Array.length_toList, flat_cells, pcells_len], by rw [flat_cells]; exact List.take_of_length_le (by rw [pcells_len]; omega)⟩⟩
theorem ownP_lo {w : World} {B g : Nat} {T : TypeId} {v : Value} {zs : List (Int × Int)} (h : OwnP w B T v zs) (hg : w.heap.size ≤ g) : v.ownBlock = none ∨ v.ownBlock ≠ some g := by
  refine .inr fun e => ?_
  have := (h.lt g e).2
  omega
theorem ownP_hi {w : World} {B g : Nat} {T : TypeId} {v : Value} {zs : List (Int × Int)} (h : OwnP w B T v zs) (hg : g < B) : v.ownBlock = none ∨ v.ownBlock ≠ some g := by
  refine .inr fun e => ?_
  have := (h.lt g e).1
  omega
theorem ownP_own {w w' : World} {B B' : Nat} {T T' : TypeId} {v v' : Value} {zs zs' : List (Int × Int)} (h : OwnP w B T v zs) (h' : OwnP w' B' T' v' zs') (hg : w.heap.size ≤ B') : v.ownBlock = none ∨ v.ownBlock ≠ v'.ownBlock := by
  rcases hv : v.ownBlock with _ | g
  · exact .inl rfl
  · refine .inr fun e => ?_
    have := (h.lt g hv).2
    have := (h'.lt g e.symm).1
    omega
theorem spq_len (C : Ch) (sc : Int) (ps : List (Int × Int)) : (spqV C sc ps).length ≤ ps.length := by
  unfold spqV pcV
  (repeat' split) <;> simp
/-- What lies in memory while the statement runs. -/
structure Sp (w W : World) (T1 T2 T3 : TypeId) (C : Ch) (A : Option Addr) (c : Nat) (B : Option Addr) (ps : List (Int × Int)) (b6 g5 : Nat) (v3 v7 : Value) (B3 B7 : Nat) (z3 z7 : List (Int × Int)) : Prop where
  bel : Below w.heap.size w W
  arg : Blk W w.heap.size T1 #[.int .i64 C.dg, .int .i64 C.tn, .string C.nm, .slice A C.zs.length c, .int .i64 C.wd, .int .i64 C.lf, .int .i64 C.rt]
  x0 : Blk W b6 T2 #[.int .i64 C.dg, .int .i64 C.tn, .string C.nm, .slice (some ⟨g5, 0, none⟩) C.zs.length C.zs.length, .int .i64 C.wd, .int .i64 C.lf, .int .i64 C.rt]
  own3 : OwnP W B3 T3 v3 z3
  own7 : OwnP W B7 T3 v7 z7
  ints : Ints w A C.zs
  prs : Prs w B ps
theorem Sp.step {w W W' : World} {T1 T2 T3 : TypeId} {C : Ch} {A : Option Addr} {c : Nat} {B : Option Addr} {ps : List (Int × Int)} {b6 g5 : Nat} {v3 v7 : Value} {B3 B7 : Nat} {z3 z7 : List (Int × Int)} (hb : Below W.heap.size W W') (h : Sp w W T1 T2 T3 C A c B ps b6 g5 v3 v7 B3 B7 z3 z7) : Sp w W' T1 T2 T3 C A c B ps b6 g5 v3 v7 B3 B7 z3 z7 :=
  ⟨Bel.step hb h.bel, Blk.step hb h.arg, Blk.step hb h.x0, OwnP.step hb h.own3, OwnP.step hb h.own7, h.ints, h.prs⟩
theorem Sp.cells {w W : World} {T1 T2 T3 : TypeId} {C : Ch} {A : Option Addr} {c : Nat} {B : Option Addr} {ps : List (Int × Int)} {b6 g5 : Nat} {v3 v7 : Value} {B3 B7 : Nat} {z3 z7 : List (Int × Int)} (h : Sp w W T1 T2 T3 C A c B ps b6 g5 v3 v7 B3 B7 z3 z7) :
    (W.cell? ⟨w.heap.size, 0, none⟩ = some (.int .i64 C.dg) ∧ W.cell? ⟨w.heap.size, 1, none⟩ = some (.int .i64 C.tn) ∧ W.cell? ⟨w.heap.size, 2, none⟩ = some (.string C.nm) ∧ W.cell? ⟨w.heap.size, 3, none⟩ = some (.slice A C.zs.length c) ∧ W.cell? ⟨w.heap.size, 4, none⟩ = some (.int .i64 C.wd) ∧ W.cell? ⟨w.heap.size, 5, none⟩ = some (.int .i64 C.lf) ∧ W.cell? ⟨w.heap.size, 6, none⟩ = some (.int .i64 C.rt)) ∧ (W.cell? ⟨b6, 0, none⟩ = some (.int .i64 C.dg) ∧ W.cell? ⟨b6, 1, none⟩ = some (.int .i64 C.tn) ∧ W.cell? ⟨b6, 2, none⟩ = some (.string C.nm) ∧ W.cell? ⟨b6, 3, none⟩ = some (.slice (some ⟨g5, 0, none⟩) C.zs.length C.zs.length) ∧ W.cell? ⟨b6, 4, none⟩ = some (.int .i64 C.wd) ∧ W.cell? ⟨b6, 5, none⟩ = some (.int .i64 C.lf) ∧ W.cell? ⟨b6, 6, none⟩ = some (.int .i64 C.rt)) ∧ w.heap.size < W.heap.size ∧ b6 < W.heap.size :=
  ⟨h.arg.chart, h.x0.chart, h.arg.lt, h.x0.lt⟩
theorem Sp.grown {w W W' : World} {T1 T2 T3 : TypeId} {C : Ch} {A : Option Addr} {c : Nat} {B : Option Addr} {ps : List (Int × Int)} {b6 g5 : Nat} {v3 v7 : Value} {B3 B7 : Nat} {z3 z7 z7' : List (Int × Int)} {row : Option Nat} (hg : W.grownBy W' row) (hr : ∀ k, row = some k → w.heap.size < k) (n6 : row ≠ some b6)
    (o3 : v3.ownBlock = none ∨ v3.ownBlock ≠ row) (h7 : OwnP W' B7 T3 v7 z7') (h : Sp w W T1 T2 T3 C A c B ps b6 g5 v3 v7 B3 B7 z3 z7) : Sp w W' T1 T2 T3 C A c B ps b6 g5 v3 v7 B3 B7 z3 z7' :=
  ⟨Bel.grown h.bel hg (fun k hk => Nat.le_of_lt (hr k hk)), Blk.grown h.arg hg (fun e => Nat.lt_irrefl _ (hr _ e.symm)), Blk.grown h.x0 hg (fun e => n6 e.symm), OwnP.kept h.own3 hg o3, h7, h.ints, h.prs⟩
set_option maxHeartbeats 2000000 in
theorem FnExactScalePoints_w (w : World) (C : Ch) (A : Option Addr) (c : Nat) (hl : C.zs.length ≤ 9223372036854775807) (hA : Ints w A C.zs) (hs : C.nm.size ≤ 9223372036854775807) (sc : Int) (gsc : (Lit.int .i64 sc).wf = true) (B : Option Addr) (d : Nat) (ps : List (Int × Int)) (hlp : ps.length ≤ 9223372036854775807) (hB : Prs w B ps) :
    Calls Try.prog 11 #[.agg #[.int .i64 C.dg, .int .i64 C.tn, .string C.nm, .slice A C.zs.length c, .int .i64 C.wd, .int .i64 C.lf, .int .i64 C.rt], .int .i64 sc, .slice B ps.length d] w fun e w' => e = .returned (.bool true) ∧ Below w.heap.size w w' := by
  by_cases hz : C.nm.size + C.zs.length ≤ 1048576
  rotate_left
  · have HZ := Lib.hid (sz2_no hz)
    go_enter Try.func11, Try.ntmps11
    go_wp2_with fail
    go_at_call 15; refine (szChart_c _ _ _ _ (by omega) (by omega) (by assumption) (by assumption) _).mono ?_; rintro e w1 ⟨rfl, hb1⟩; obtain ⟨hc1, hf1, hz1⟩ := bel hb1; (try simp only [World.size_drew, World.cell?_drew, World.frozen?_drew] at hc1 hf1 hz1); (try simp only [World.heap_drewN, World.cell?_drewN, World.frozen?_drewN] at hc1 hf1 hz1); (try have hl1 : w.heap.size < w1.heap.size := by (have hq := hb1.size; (try simp at hq); omega)); (try have hm1 : w.heap.size + 1 < w1.heap.size := by (have hq := hb1.size; (try simp at hq); omega)); (try have hn1 : w.heap.size + 1 + 1 < w1.heap.size := by (have hq := hb1.size; (try simp at hq); omega)); (try have hp1 : b < w1.heap.size := by (have hq := hb1.size; (try simp at hq); omega)); (try have ho1 : b' < w1.heap.size := by (have hq := hb1.size; (try simp at hq); omega))
    rw [HZ.out]
    go_wp2
    go_ret
    exact ⟨rfl, by repeat (with_reducible first | exact Below.refl _ _ | assumption | refine Bel.alloc ?_ _ | refine Bel.step (by assumption) ?_ | refine Below.drew ?_ | refine Bel.drewN ?_ _ | refine Below.setCell ?_ (by first | exact Nat.le_refl _ | omega | (simp; done) | (simp; omega)) _)⟩
  have HZ := Lib.hid (sz2_ok hz)
  have hn : C.zs.length ≤ 1048576 := by omega
  have hm : C.nm.size ≤ 1048576 := by omega
  have hn0 : (0 : Int) ≤ 1048576 - C.nm.size - C.zs.length := by omega
  have hn1 : (1048576 : Int) - C.nm.size - C.zs.length ≤ 1048576 := by omega
  by_cases hq : C.nm.size + C.zs.length + ps.length ≤ 1048576
  rotate_left
  · have HY := Lib.hid (show szV (1048576 - C.nm.size - C.zs.length) ps.length = -1 by unfold szV; rw [if_pos (by omega)])
    clear hz hq
    go_enter Try.func11, Try.ntmps11
    go_wp2_with fail
    go_at_call 15; refine (szChart_c _ _ _ _ (by omega) (by omega) (by assumption) (by assumption) _).mono ?_; rintro e w1 ⟨rfl, hb1⟩; obtain ⟨hc1, hf1, hz1⟩ := bel hb1; (try simp only [World.size_drew, World.cell?_drew, World.frozen?_drew] at hc1 hf1 hz1); (try simp only [World.heap_drewN, World.cell?_drewN, World.frozen?_drewN] at hc1 hf1 hz1); (try have hl1 : w.heap.size < w1.heap.size := by (have hq := hb1.size; (try simp at hq); omega)); (try have hm1 : w.heap.size + 1 < w1.heap.size := by (have hq := hb1.size; (try simp at hq); omega)); (try have hn1 : w.heap.size + 1 + 1 < w1.heap.size := by (have hq := hb1.size; (try simp at hq); omega)); (try have hp1 : b < w1.heap.size := by (have hq := hb1.size; (try simp at hq); omega)); (try have ho1 : b' < w1.heap.size := by (have hq := hb1.size; (try simp at hq); omega))
    rw [HZ.out]
    go_wp2_with fail
    refine (szFigureS_c B ps.length d _ hn0 hn1 hlp _).mono ?_; rintro e w' ⟨rfl, rfl⟩
    rw [HY.out]
    go_wp2
    go_ret
    exact ⟨rfl, by repeat (with_reducible first | exact Below.refl _ _ | assumption | refine Bel.alloc ?_ _ | refine Bel.step (by assumption) ?_ | refine Below.drew ?_ | refine Bel.drewN ?_ _ | refine Below.setCell ?_ (by first | exact Nat.le_refl _ | omega | (simp; done) | (simp; omega)) _)⟩
  have hp : ps.length ≤ 1048576 := by omega
  have hy0 : (0 : Int) ≤ 1048576 - C.nm.size - C.zs.length - ps.length := by omega
  have HY := Lib.hid (show szV (1048576 - C.nm.size - C.zs.length) ps.length = 1048576 - C.nm.size - C.zs.length - ps.length by unfold szV; rw [if_neg (by omega)])
  have hd := Nat.le_trans (spq_len C sc ps) hp
  clear hz hq
  go_enter Try.func11, Try.ntmps11
  go_wp2_with fail
  go_at_call 15; refine (szChart_c _ _ _ _ (by omega) (by omega) (by assumption) (by assumption) _).mono ?_; rintro e w1 ⟨rfl, hb1⟩; obtain ⟨hc1, hf1, hz1⟩ := bel hb1; (try simp only [World.size_drew, World.cell?_drew, World.frozen?_drew] at hc1 hf1 hz1); (try simp only [World.heap_drewN, World.cell?_drewN, World.frozen?_drewN] at hc1 hf1 hz1); (try have hl1 : w.heap.size < w1.heap.size := by (have hq := hb1.size; (try simp at hq); omega)); (try have hm1 : w.heap.size + 1 < w1.heap.size := by (have hq := hb1.size; (try simp at hq); omega)); (try have hn1 : w.heap.size + 1 + 1 < w1.heap.size := by (have hq := hb1.size; (try simp at hq); omega)); (try have hp1 : b < w1.heap.size := by (have hq := hb1.size; (try simp at hq); omega)); (try have ho1 : b' < w1.heap.size := by (have hq := hb1.size; (try simp at hq); omega))
  rw [HZ.out]
  have hbel1 : Below w.heap.size w w1 := by repeat (with_reducible first | exact Below.refl _ _ | assumption | refine Bel.alloc ?_ _ | refine Bel.step (by assumption) ?_ | refine Below.drew ?_ | refine Bel.drewN ?_ _ | refine Below.setCell ?_ (by first | exact Nat.le_refl _ | omega | (simp; done) | (simp; omega)) _)
  go_wp2_with fail
  refine (szFigureS_c B ps.length d _ hn0 hn1 hlp _).mono ?_; rintro e w' ⟨rfl, rfl⟩
  rw [HY.out]
  go_wp2_with fail
  go_at_call 17; refine (toChart_c _ _ _ hn _ (Ints.step hbel1 hA)).mono ?_; rintro e w2 ⟨g2, rfl, hg2, hB2, hb2⟩; obtain ⟨hc2, hf2, hz2⟩ := bel hb2; (try simp only [World.size_drew, World.cell?_drew, World.frozen?_drew] at hc2 hf2 hz2); (try simp only [World.heap_drewN, World.cell?_drewN, World.frozen?_drewN] at hc2 hf2 hz2); (try have hl2 : w.heap.size < w2.heap.size := by (have hq := hb2.size; (try simp at hq); omega)); (try have hm2 : w.heap.size + 1 < w2.heap.size := by (have hq := hb2.size; (try simp at hq); omega)); (try have hn2 : w.heap.size + 1 + 1 < w2.heap.size := by (have hq := hb2.size; (try simp at hq); omega)); (try have hp2 : b < w2.heap.size := by (have hq := hb2.size; (try simp at hq); omega)); (try have ho2 : b' < w2.heap.size := by (have hq := hb2.size; (try simp at hq); omega))
  have hbel2 : Below w.heap.size w w2 := by repeat (with_reducible first | exact Below.refl _ _ | assumption | refine Bel.alloc ?_ _ | refine Bel.step (by assumption) ?_ | refine Below.drew ?_ | refine Bel.drewN ?_ _ | refine Below.setCell ?_ (by first | exact Nat.le_refl _ | omega | (simp; done) | (simp; omega)) _)
  go_wp2_with fail
  go_at_call 39; refine (toFigureS_c _ _ _ hp _ (Prs.step hbel2 hB)).mono ?_; rintro e w3 ⟨rfl, hB3, hb3⟩; obtain ⟨hc3, hf3, hz3⟩ := bel hb3; (try simp only [World.size_drew, World.cell?_drew, World.frozen?_drew] at hc3 hf3 hz3); (try simp only [World.heap_drewN, World.cell?_drewN, World.frozen?_drewN] at hc3 hf3 hz3); (try have hl3 : w.heap.size < w3.heap.size := by (have hq := hb3.size; (try simp at hq); omega)); (try have hm3 : w.heap.size + 1 < w3.heap.size := by (have hq := hb3.size; (try simp at hq); omega)); (try have hn3 : w.heap.size + 1 + 1 < w3.heap.size := by (have hq := hb3.size; (try simp at hq); omega)); (try have hp3 : b < w3.heap.size := by (have hq := hb3.size; (try simp at hq); omega)); (try have ho3 : b' < w3.heap.size := by (have hq := hb3.size; (try simp at hq); omega))
  go_wp2_with fail
  refine (ScalePoints_S C _ _ sc _ _ ps hp hn hm _ (Blk.step hb3 hB2).ints hB3.prs).mono ?_; rintro e w4 ⟨v4, rfl, hO4, hb4⟩
  obtain ⟨A3, k3, rfl, hk3, _, _, _⟩ := hO4.form
  have hP1 := Blk.step hb1 (Blk.new w 28 #[.int .i64 C.dg, .int .i64 C.tn, .string C.nm, .slice A C.zs.length c, .int .i64 C.wd, .int .i64 C.lf, .int .i64 C.rt])
  have hP4 := Blk.step hb4 (Blk.step hb3 (Blk.step hb2 hP1))
  have hbel4 : Below w.heap.size w w4 := by repeat (with_reducible first | exact Below.refl _ _ | assumption | refine Bel.alloc ?_ _ | refine Bel.step (by assumption) ?_ | refine Below.drew ?_ | refine Bel.drewN ?_ _ | refine Below.setCell ?_ (by first | exact Nat.le_refl _ | omega | (simp; done) | (simp; omega)) _)
  have s1 : w.heap.size < w1.heap.size := hl1
  have s2 := hb2.size
  have s3 := hb3.size
  have s4 := hb4.size
  clear hb1 hc1 hf1 hz1 hb2 hc2 hf2 hz2 hb3 hc3 hf3 hz3 hP1 hB2 hB3
  obtain ⟨p0, p1, p2, p3, p4, p5, p6⟩ := Blk.chart hP4
  have hl4 := hP4.lt
  go_wp2_with fail
  go_at_call 17; refine (toChart_c _ _ _ hn _ (Ints.step hbel4 hA)).mono ?_; rintro e w5 ⟨g5, rfl, hg5, hB5, hb5⟩; obtain ⟨hc5, hf5, hz5⟩ := bel hb5; (try simp only [World.size_drew, World.cell?_drew, World.frozen?_drew] at hc5 hf5 hz5); (try simp only [World.heap_drewN, World.cell?_drewN, World.frozen?_drewN] at hc5 hf5 hz5); (try have hl5 : w.heap.size < w5.heap.size := by (have hq := hb5.size; (try simp at hq); omega)); (try have hm5 : w.heap.size + 1 < w5.heap.size := by (have hq := hb5.size; (try simp at hq); omega)); (try have hn5 : w.heap.size + 1 + 1 < w5.heap.size := by (have hq := hb5.size; (try simp at hq); omega)); (try have hp5 : b < w5.heap.size := by (have hq := hb5.size; (try simp at hq); omega)); (try have ho5 : b' < w5.heap.size := by (have hq := hb5.size; (try simp at hq); omega))
  have hbel5 : Below w.heap.size w w5 := by repeat (with_reducible first | exact Below.refl _ _ | assumption | refine Bel.alloc ?_ _ | refine Bel.step (by assumption) ?_ | refine Below.drew ?_ | refine Bel.drewN ?_ _ | refine Below.setCell ?_ (by first | exact Nat.le_refl _ | omega | (simp; done) | (simp; omega)) _)
  go_wp2_with fail
  go_at_call 39; refine (toFigureS_c _ _ _ hp _ (Prs.alloc _ (Prs.step hbel5 hB))).mono ?_; rintro e w6 ⟨rfl, hB6, hb6⟩; obtain ⟨hc6, hf6, hz6⟩ := bel hb6; (try simp only [World.size_drew, World.cell?_drew, World.frozen?_drew] at hc6 hf6 hz6); (try simp only [World.heap_drewN, World.cell?_drewN, World.frozen?_drewN] at hc6 hf6 hz6); (try have hl6 : w.heap.size < w6.heap.size := by (have hq := hb6.size; (try simp at hq); omega)); (try have hm6 : w.heap.size + 1 < w6.heap.size := by (have hq := hb6.size; (try simp at hq); omega)); (try have hn6 : w.heap.size + 1 + 1 < w6.heap.size := by (have hq := hb6.size; (try simp at hq); omega)); (try have hp6 : b < w6.heap.size := by (have hq := hb6.size; (try simp at hq); omega)); (try have ho6 : b' < w6.heap.size := by (have hq := hb6.size; (try simp at hq); omega))
  have hb5a := Blk.new w5 38 #[.int .i64 C.dg, .int .i64 C.tn, .string C.nm, .slice (some ⟨g5, 0, none⟩) C.zs.length C.zs.length, .int .i64 C.wd, .int .i64 C.lf, .int .i64 C.rt]
  obtain ⟨x0, x1, x2, x3, x4, x5, x6⟩ := Blk.chart (Blk.step hb6 hb5a)
  have lw6 : w5.heap.size < w6.heap.size := by have := hb6.size; simp at this; omega
  simp only [World.size_alloc] at hB6
  go_wp2_with fail
  refine (ScalePoints_I C _ _ sc _ _ ps hp hn hm _ (Blk.step hb6 (Blk.alloc _ hB5)).ints hB6.prs).mono ?_; rintro e w7 ⟨v7, rfl, hO7, hb7⟩
  obtain ⟨A7, k7, rfl, hk7, _, _, _⟩ := hO7.form
  have s5 := hb5.size
  have s6 := hb6.size
  have s7 := hb7.size
  have gl5 := hB5.lt
  have gl6 := hB6.lt
  simp only [World.size_alloc] at s6
  have hbel7 : Below w.heap.size w w7 := by repeat (with_reducible first | exact Below.refl _ _ | assumption | refine Bel.alloc ?_ _ | refine Bel.step (by assumption) ?_ | refine Below.drew ?_ | refine Bel.drewN ?_ _ | refine Below.setCell ?_ (by first | exact Nat.le_refl _ | omega | (simp; done) | (simp; omega)) _)
  have hS7 : Sp w w7 28 38 94 C A c B ps w5.heap.size g5 (.slice A3 (spqV C sc ps).length k3) (.slice A7 (spqV C sc ps).length k7) w3.heap.size w6.heap.size (spqV C sc ps) (spqV C sc ps) :=
    ⟨hbel7, Blk.step hb7 (Blk.step hb6 (Blk.alloc _ (Blk.step hb5 hP4))), Blk.step hb7 (Blk.step hb6 hb5a), OwnP.step hb7 (OwnP.step hb6 (OwnP.alloc _ (OwnP.step hb5 hO4))), hO7, hA, hB⟩
  have hX7 := Blk.step hb7 (Blk.step hb6 (Blk.alloc (.cells #[.int .i64 C.dg, .int .i64 C.tn, .string C.nm, .slice (some ⟨g5, 0, none⟩) C.zs.length C.zs.length, .int .i64 C.wd, .int .i64 C.lf, .int .i64 C.rt] 38) hB5))
  have hY7 := Blk.step hb7 hB6
  have o37 : (Value.slice A3 (spqV C sc ps).length k3).ownBlock = none ∨ (Value.slice A3 (spqV C sc ps).length k3).ownBlock ≠ (Value.slice A7 (spqV C sc ps).length k7).ownBlock := ownP_own hO4 hO7 (by omega)
  have o35 : (Value.slice A3 (spqV C sc ps).length k3).ownBlock = none ∨ (Value.slice A3 (spqV C sc ps).length k3).ownBlock ≠ some g5 := ownP_lo hO4 (by omega)
  have o36 : (Value.slice A3 (spqV C sc ps).length k3).ownBlock = none ∨ (Value.slice A3 (spqV C sc ps).length k3).ownBlock ≠ some (w5.heap.size + 1) := ownP_lo hO4 (by omega)
  have o75 : (Value.slice A7 (spqV C sc ps).length k7).ownBlock = none ∨ (Value.slice A7 (spqV C sc ps).length k7).ownBlock ≠ some g5 := ownP_hi hO7 (by omega)
  have o76 : (Value.slice A7 (spqV C sc ps).length k7).ownBlock = none ∨ (Value.slice A7 (spqV C sc ps).length k7).ownBlock ≠ some (w5.heap.size + 1) := ownP_hi hO7 (by omega)
  have o70 : ∀ k, (Value.slice A7 (spqV C sc ps).length k7).ownBlock = some k → w.heap.size < k := fun k hk => by have := (hO7.lt k hk).1; omega
  have o7b : (Value.slice A7 (spqV C sc ps).length k7).ownBlock ≠ some w5.heap.size := fun e => by have := (hO7.lt _ e).1; omega
  have hgne : g5 ≠ w5.heap.size + 1 := by omega
  have hg05 : w.heap.size < g5 := by omega
  have hg5b : g5 ≠ w5.heap.size := by omega
  have lb : w.heap.size < w5.heap.size := by omega
  clear hb5 hc5 hf5 hz5 hb6 hc6 hf6 hz6 hb7 hb5a hB5 hB6 hO7 hO4 hP4 p0 p1 p2 p3 p4 p5 p6 x0 x1 x2 x3 x4 x5 x6
  go_wp2_with fail
  go_at_call 41; refine (eqPointS_c _ _ _ _ _ _ hd hd _ hS7.own7.prs hS7.own3.prs).mono ?_; rintro e w8 ⟨rfl, hb8⟩; obtain ⟨hc8, hf8, hz8⟩ := bel hb8; (try simp only [World.size_drew, World.cell?_drew, World.frozen?_drew] at hc8 hf8 hz8); (try simp only [World.heap_drewN, World.cell?_drewN, World.frozen?_drewN] at hc8 hf8 hz8); (try have hl8 : w.heap.size < w8.heap.size := by (have hq := hb8.size; (try simp at hq); omega)); (try have hm8 : w.heap.size + 1 < w8.heap.size := by (have hq := hb8.size; (try simp at hq); omega)); (try have hn8 : w.heap.size + 1 + 1 < w8.heap.size := by (have hq := hb8.size; (try simp at hq); omega)); (try have hp8 : b < w8.heap.size := by (have hq := hb8.size; (try simp at hq); omega)); (try have ho8 : b' < w8.heap.size := by (have hq := hb8.size; (try simp at hq); omega))
  rw [eqL_self]
  have hS8 := Sp.step hb8 hS7
  have hX8 := Blk.step hb8 hX7
  have hY8 := Blk.step hb8 hY7
  clear hS7 hX7 hY7 hb8 hc8 hf8 hz8
  obtain ⟨⟨p0, p1, p2, p3, p4, p5, p6⟩, ⟨x0, x1, x2, x3, x4, x5, x6⟩, i1, i2⟩ := hS8.cells
  have HI := Lib.hid (Ints.step hS8.bel hS8.ints)
  have HJ := Lib.hid hX8.ints
  go_wp2
  go_region_held3 (fun w' => (w'.cell? ⟨w.heap.size, 0, none⟩ = some (.int .i64 C.dg) ∧ w'.cell? ⟨w.heap.size, 1, none⟩ = some (.int .i64 C.tn) ∧ w'.cell? ⟨w.heap.size, 2, none⟩ = some (.string C.nm) ∧ w'.cell? ⟨w.heap.size, 3, none⟩ = some (.slice A C.zs.length c) ∧ w'.cell? ⟨w.heap.size, 4, none⟩ = some (.int .i64 C.wd) ∧ w'.cell? ⟨w.heap.size, 5, none⟩ = some (.int .i64 C.lf) ∧ w'.cell? ⟨w.heap.size, 6, none⟩ = some (.int .i64 C.rt)) ∧ w'.cell? ⟨w5.heap.size, 0, none⟩ = some (.int .i64 C.dg) ∧ w'.cell? ⟨w5.heap.size, 1, none⟩ = some (.int .i64 C.tn) ∧ w'.cell? ⟨w5.heap.size, 2, none⟩ = some (.string C.nm) ∧ w'.cell? ⟨w5.heap.size, 3, none⟩ = some (.slice (some ⟨g5, 0, none⟩) C.zs.length C.zs.length) ∧ w'.cell? ⟨w5.heap.size, 4, none⟩ = some (.int .i64 C.wd) ∧ w'.cell? ⟨w5.heap.size, 5, none⟩ = some (.int .i64 C.lf) ∧ w'.cell? ⟨w5.heap.size, 6, none⟩ = some (.int .i64 C.rt)) (simp [go_sem, *])
      (first | (go_at_call 17; refine (toChart_c _ _ _ hn _ (by repeat (with_reducible first | exact HI.out | assumption | refine Ints.drew ?_ | refine Ints.drewN _ ?_ | refine Ints.alloc _ ?_ | refine Ints.step (by assumption) ?_))).mono ?_; rintro e w1 ⟨g1, rfl, hg1, hB1, hb1⟩; obtain ⟨hc1, hf1, hz1⟩ := bel hb1; (try simp only [World.size_drew, World.cell?_drew, World.frozen?_drew] at hc1 hf1 hz1); (try simp only [World.heap_drewN, World.cell?_drewN, World.frozen?_drewN] at hc1 hf1 hz1); (try have hl1 : w.heap.size < w1.heap.size := by (have hq := hb1.size; (try simp at hq); omega)); (try have hm1 : w.heap.size + 1 < w1.heap.size := by (have hq := hb1.size; (try simp at hq); omega)); (try have hn1 : w.heap.size + 1 + 1 < w1.heap.size := by (have hq := hb1.size; (try simp at hq); omega)); (try have hp1 : b < w1.heap.size := by (have hq := hb1.size; (try simp at hq); omega)); (try have ho1 : b' < w1.heap.size := by (have hq := hb1.size; (try simp at hq); omega))) | (go_at_call 21; refine (eqChart_c _ _ _ _ _ hn _ (by repeat (with_reducible first | exact HJ.out | assumption | refine Ints.drew ?_ | refine Ints.drewN _ ?_ | refine Ints.alloc _ ?_ | refine Ints.step (by assumption) ?_)) (by repeat (with_reducible first | exact hB1.ints | refine Ints.drewN _ ?_ | refine Ints.drew ?_))).mono ?_; rintro e w1 ⟨rfl, hb1⟩; obtain ⟨hc1, hf1, hz1⟩ := bel hb1; (try simp only [World.size_drew, World.cell?_drew, World.frozen?_drew] at hc1 hf1 hz1); (try simp only [World.heap_drewN, World.cell?_drewN, World.frozen?_drewN] at hc1 hf1 hz1); (try have hl1 : w.heap.size < w1.heap.size := by (have hq := hb1.size; (try simp at hq); omega)); (try have hm1 : w.heap.size + 1 < w1.heap.size := by (have hq := hb1.size; (try simp at hq); omega)); (try have hn1 : w.heap.size + 1 + 1 < w1.heap.size := by (have hq := hb1.size; (try simp at hq); omega)); (try have hp1 : b < w1.heap.size := by (have hq := hb1.size; (try simp at hq); omega)); (try have ho1 : b' < w1.heap.size := by (have hq := hb1.size; (try simp at hq); omega))))
  have hb9 : Below w8.heap.size w8 w1 := by repeat (with_reducible first | exact Below.refl _ _ | assumption | refine Bel.alloc ?_ _ | refine Bel.step (by assumption) ?_ | refine Below.drew ?_ | refine Bel.drewN ?_ _ | refine Below.setCell ?_ (by first | exact Nat.le_refl _ | omega | (simp; done) | (simp; omega)) _)
  have hS9 := Sp.step hb9 hS8
  have hX9 := Blk.step hb9 hX8
  have hY9 := Blk.step hb9 hY8
  clear hS8 hX8 hY8 HI HJ
  clear p0 p1 p2 p3 p4 p5 p6 x0 x1 x2 x3 x4 x5 x6 i1 i2
  go_wp2_with fail
  go_at_call 39; refine (toFigureS_c _ _ _ hp _ (Prs.step hS9.bel hS9.prs)).mono ?_; rintro e w10 ⟨rfl, hB10, hb10⟩; obtain ⟨hc10, hf10, hz10⟩ := bel hb10; (try simp only [World.size_drew, World.cell?_drew, World.frozen?_drew] at hc10 hf10 hz10); (try simp only [World.heap_drewN, World.cell?_drewN, World.frozen?_drewN] at hc10 hf10 hz10); (try have hl10 : w.heap.size < w10.heap.size := by (have hq := hb10.size; (try simp at hq); omega)); (try have hm10 : w.heap.size + 1 < w10.heap.size := by (have hq := hb10.size; (try simp at hq); omega)); (try have hn100 : w.heap.size + 1 + 1 < w10.heap.size := by (have hq := hb10.size; (try simp at hq); omega)); (try have hp10 : b < w10.heap.size := by (have hq := hb10.size; (try simp at hq); omega)); (try have ho10 : b' < w10.heap.size := by (have hq := hb10.size; (try simp at hq); omega))
  have hY10 := Blk.step hb10 hY9
  have hS10 := Sp.step hb10 hS9
  have hX10 := Blk.step hb10 hX9
  go_wp2_with fail
  go_at_call 42; refine (eqFigureS_c _ _ _ _ _ _ hp hp _ hY10.prs hB10.prs).mono ?_; rintro e w11 ⟨rfl, hb11⟩; obtain ⟨hc11, hf11, hz11⟩ := bel hb11; (try simp only [World.size_drew, World.cell?_drew, World.frozen?_drew] at hc11 hf11 hz11); (try simp only [World.heap_drewN, World.cell?_drewN, World.frozen?_drewN] at hc11 hf11 hz11); (try have hl11 : w.heap.size < w11.heap.size := by (have hq := hb11.size; (try simp at hq); omega)); (try have hm11 : w.heap.size + 1 < w11.heap.size := by (have hq := hb11.size; (try simp at hq); omega)); (try have hn111 : w.heap.size + 1 + 1 < w11.heap.size := by (have hq := hb11.size; (try simp at hq); omega)); (try have hp11 : b < w11.heap.size := by (have hq := hb11.size; (try simp at hq); omega)); (try have ho11 : b' < w11.heap.size := by (have hq := hb11.size; (try simp at hq); omega))
  rw [eqL_self]
  have hS11 := Sp.step hb11 hS10
  have hX11 := Blk.own (Blk.step hb11 hX10) (by unfold maxLen; omega) 0 (Nat.zero_le _)
  have hY11 := Blk.step hb11 hY10
  clear hS9 hX9 hY9 hS10 hX10 hY10 hB10 hb10 hc10 hf10 hz10 hb11 hc11 hf11 hz11
  obtain ⟨_, ⟨x0, x1, x2, x3, x4, x5, x6⟩, i1, i2⟩ := hS11.cells
  have hq0 : (0 : Int) ≤ (C.zs.length : Int) := by omega
  have hq1 : (0 : Int) ≤ (ps.length : Int) := by omega
  have hq2 : (0 : Int) ≤ ((spqV C sc ps).length : Int) := by omega
  go_wp2_with fail
  refine (markChart_c C _ _ _ _ (by omega) (by omega) (by omega) _ hX11).mono ?_; rintro e w12 ⟨rfl, hX12, hg12⟩
  have hg12b : w11.grownBy w12 (some g5) := hg12
  have hS12 := Sp.grown hg12b (fun k hk => by cases hk; omega) (fun h => by injection h; omega) o35 (OwnP.kept hS11.own7 hg12b o75) hS11
  have hY12 := Blk.ownP (Blk.grown hY11 hg12b (fun h => by injection h; omega)) (by unfold maxLen; omega) 0 (Nat.zero_le _)
  clear hS11 hX11 hX12 hY11 hg12 hg12b x0 x1 x2 x3 x4 x5 x6 i1 i2
  go_wp2_with fail
  refine (markFigureS_c _ ps 0 _ (by omega) (by omega) (by omega) _ hY12).mono ?_; rintro e w13 ⟨rfl, hY13, hg13⟩
  have hg13b : w12.grownBy w13 (some (w5.heap.size + 1)) := hg13
  have hS13 := Sp.grown hg13b (fun k hk => by cases hk; omega) (fun h => by injection h; omega) o36 (OwnP.kept hS12.own7 hg13b o76) hS12
  clear hS12 hY12 hY13 hg13 hg13b
  have hq3 : ¬ (1 + (C.zs.length : Int) + 2 * (ps.length : Int) < 0) := by omega
  go_wp2_with fail
  go_at_call 41; refine (eqPointS_c _ _ _ _ _ _ hd hd _ hS13.own7.prs hS13.own3.prs).mono ?_; rintro e w14 ⟨rfl, hb14⟩; obtain ⟨hc14, hf14, hz14⟩ := bel hb14; (try simp only [World.size_drew, World.cell?_drew, World.frozen?_drew] at hc14 hf14 hz14); (try simp only [World.heap_drewN, World.cell?_drewN, World.frozen?_drewN] at hc14 hf14 hz14); (try have hl14 : w.heap.size < w14.heap.size := by (have hq := hb14.size; (try simp at hq); omega)); (try have hm14 : w.heap.size + 1 < w14.heap.size := by (have hq := hb14.size; (try simp at hq); omega)); (try have hn144 : w.heap.size + 1 + 1 < w14.heap.size := by (have hq := hb14.size; (try simp at hq); omega)); (try have hp14 : b < w14.heap.size := by (have hq := hb14.size; (try simp at hq); omega)); (try have ho14 : b' < w14.heap.size := by (have hq := hb14.size; (try simp at hq); omega))
  rw [eqL_self]
  have hS14 := Sp.step hb14 hS13
  clear hS13 hb14 hc14 hf14 hz14
  go_wp2_with fail
  refine (markPointS_c _ _ _ _ (by omega) (by omega) (by omega) _ hS14.own7).mono ?_; rintro e w15 ⟨rfl, hM15, hg15⟩
  have hS15 := Sp.grown hg15 o70 o7b o37 hM15 hS14
  clear hS14 hM15 hg15
  have hd2 : (spqV C sc ps).length ≤ 10000000 := by omega
  have hq4 : ¬ (1 + 2 * ((spqV C sc ps).length : Int) < 0) := by omega
  go_wp2_with fail
  refine (heldPointS_c _ (spqV C sc ps).length _ _ (by omega) (by omega) hd2 _ hS15.own7).mono ?_; rintro e w' ⟨rfl, rfl⟩
  obtain ⟨⟨p0, p1, p2, p3, p4, p5, p6⟩, _, i1, i2⟩ := hS15.cells
  go_wp2_with fail
  go_at_call 17; refine (toChart_c _ _ _ hn _ (Ints.step hS15.bel hS15.ints)).mono ?_; rintro e w16 ⟨g16, rfl, hg16, hB16, hb16⟩; obtain ⟨hc16, hf16, hz16⟩ := bel hb16; (try simp only [World.size_drew, World.cell?_drew, World.frozen?_drew] at hc16 hf16 hz16); (try simp only [World.heap_drewN, World.cell?_drewN, World.frozen?_drewN] at hc16 hf16 hz16); (try have hl16 : w.heap.size < w16.heap.size := by (have hq := hb16.size; (try simp at hq); omega)); (try have hm16 : w.heap.size + 1 < w16.heap.size := by (have hq := hb16.size; (try simp at hq); omega)); (try have hn166 : w.heap.size + 1 + 1 < w16.heap.size := by (have hq := hb16.size; (try simp at hq); omega)); (try have hp16 : b < w16.heap.size := by (have hq := hb16.size; (try simp at hq); omega)); (try have ho16 : b' < w16.heap.size := by (have hq := hb16.size; (try simp at hq); omega))
  have hS16 := Sp.step hb16 hS15
  clear hS15 hb16 hc16 hf16 hz16 p0 p1 p2 p3 p4 p5 p6 i1 i2
  go_wp2_with fail
  go_at_call 39; refine (toFigureS_c _ _ _ hp _ (Prs.step hS16.bel hS16.prs)).mono ?_; rintro e w17 ⟨rfl, hB17, hb17⟩; obtain ⟨hc17, hf17, hz17⟩ := bel hb17; (try simp only [World.size_drew, World.cell?_drew, World.frozen?_drew] at hc17 hf17 hz17); (try simp only [World.heap_drewN, World.cell?_drewN, World.frozen?_drewN] at hc17 hf17 hz17); (try have hl17 : w.heap.size < w17.heap.size := by (have hq := hb17.size; (try simp at hq); omega)); (try have hm17 : w.heap.size + 1 < w17.heap.size := by (have hq := hb17.size; (try simp at hq); omega)); (try have hn177 : w.heap.size + 1 + 1 < w17.heap.size := by (have hq := hb17.size; (try simp at hq); omega)); (try have hp17 : b < w17.heap.size := by (have hq := hb17.size; (try simp at hq); omega)); (try have ho17 : b' < w17.heap.size := by (have hq := hb17.size; (try simp at hq); omega))
  have hS17 := Sp.step hb17 hS16
  go_wp2_with fail
  refine (ScalePoints_I C _ _ sc _ _ ps hp hn hm _ (Blk.step hb17 hB16).ints hB17.prs).mono ?_; rintro e w18 ⟨v18, rfl, hO18, hb18⟩
  obtain ⟨A18, k18, rfl, _, _, _, _⟩ := hO18.form
  have hS18 := Sp.step hb18 hS17
  clear hS16 hS17 hB16 hB17 hb17 hc17 hf17 hz17 hb18
  go_wp2_with fail
  go_at_call 41; refine (eqPointS_c _ _ _ _ _ _ hd hd _ hO18.prs hS18.own3.prs).mono ?_; rintro e w19 ⟨rfl, hb19⟩; obtain ⟨hc19, hf19, hz19⟩ := bel hb19; (try simp only [World.size_drew, World.cell?_drew, World.frozen?_drew] at hc19 hf19 hz19); (try simp only [World.heap_drewN, World.cell?_drewN, World.frozen?_drewN] at hc19 hf19 hz19); (try have hl19 : w.heap.size < w19.heap.size := by (have hq := hb19.size; (try simp at hq); omega)); (try have hm19 : w.heap.size + 1 < w19.heap.size := by (have hq := hb19.size; (try simp at hq); omega)); (try have hn199 : w.heap.size + 1 + 1 < w19.heap.size := by (have hq := hb19.size; (try simp at hq); omega)); (try have hp19 : b < w19.heap.size := by (have hq := hb19.size; (try simp at hq); omega)); (try have ho19 : b' < w19.heap.size := by (have hq := hb19.size; (try simp at hq); omega))
  rw [eqL_self]
  have hS19 := Sp.step hb19 hS18
  clear hS18 hO18 hb19 hc19 hf19 hz19
  go_wp2_with fail
  refine (heldPointS_c _ (spqV C sc ps).length _ _ (by omega) (by omega) hd2 _ hS19.own7).mono ?_; rintro e w' ⟨rfl, rfl⟩
  go_wp2
  go_ret
  exact ⟨rfl, hS19.bel⟩
end Go.Proofs.Yteldaadpcponfaa
