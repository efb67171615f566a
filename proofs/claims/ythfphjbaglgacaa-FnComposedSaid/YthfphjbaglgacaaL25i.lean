/- Chapter 25: the image of a point under a projection, in the program. Conditions: as stated at each contract. -/
import Derived.Test.YthfphjbaglgacaaProg
import Derived.Test.YthfphjbaglgacaaBase
import Derived.Test.YthfphjbaglgacaaRw
import Derived.Test.YthfphjbaglgacaaL01
import Derived.Test.YthfphjbaglgacaaCp
import Derived.Test.YthfphjbaglgacaaL25
import Derived.Test.YthfphjbaglgacaaL25b
import Derived.Test.YthfphjbaglgacaaL25g
import Derived.Test.YthfphjbaglgacaaL25h
import Derived.WalkKit
import Derived.WalkSpells
import Derived.WalkLawsBesides
import Derived.Lib.Hide
import Derived.Deep.QuietTactic
import Derived.BigQuiet
import Derived.Deep.Draws
import Derived.Deep.RegionHeld3
import Derived.Deep.AppendLies
namespace Go.Proofs.Ythfphjbaglgacaa
open Go.RowKit
set_option linter.unusedVariables false
/-- A fact that the walk does not look into. -/
structure BoxPj (P : Prop) : Prop where
  out : P
theorem cut_Pj {G : Prop} (P : Prop) (k : BoxPj P → G) (h : P) : G := k ⟨h⟩
set_option maxHeartbeats 1000000 in
theorem ProjectPoint_I (A : Option Addr) (c : Nat) (m : List Int) (hn : m.length ≤ 1048576) (x y z : Int) (w : World) (hA : Ints w A m) :
    Calls Try.prog 24 #[.slice A m.length c, .agg #[.int .i64 x, .int .i64 y, .int .i64 z]] w fun e w' => e = .returned (.tuple #[.agg #[.int .i64 (prjV m x y z 0), .int .i64 (prjV m x y z 1), .int .i64 (prjV m x y z 2)], .int .i64 (prjC m x y z)]) ∧ Below w.heap.size w w' := by
  have HI := Lib.hid hA
  by_cases hg : (isPr m && ratB x y z) = true
  rotate_left
  · exact Project1_I A c m hn x y z w hA (by simpa using hg)
  obtain ⟨h1, h2⟩ : isPr m = true ∧ ratB x y z = true := by simpa using hg
  obtain ⟨q1, q2, q3⟩ := isPr_iff h1
  have HM := Lib.hid q2
  rw [q2]
  obtain ⟨b, o, rfl, hbb, hcell⟩ := hA (by omega)
  have BD := Lib.hid (isPr_bd h1)
  have H2 := Lib.hid h2
  have HR0 := Lib.hid (show rowV m 0 x y z = m.getD 0 0 * x + m.getD 1 0 * y + m.getD 2 0 * z from rfl)
  have HR1 := Lib.hid (show rowV m 1 x y z = m.getD 3 0 * x + m.getD 4 0 * y + m.getD 5 0 * z from rfl)
  have HR2 := Lib.hid (show rowV m 2 x y z = m.getD 6 0 * x + m.getD 7 0 * y + m.getD 8 0 * z from rfl)
  have h5 := Lib.hid (prj_5 h1 h2)
  have h3 := Lib.hid (prj_3 h1 h2)
  have h0 := Lib.hid (show rowV m 2 x y z ≠ 0 → smlB9 x y z = true → prjC m x y z = redC (rowV m 0 x y z) (rowV m 1 x y z) (rowV m 2 x y z) ∧ prjV m x y z 0 = redV (rowV m 0 x y z) (rowV m 1 x y z) (rowV m 2 x y z) (rowV m 0 x y z) ∧ prjV m x y z 1 = redV (rowV m 0 x y z) (rowV m 1 x y z) (rowV m 2 x y z) (rowV m 1 x y z) ∧ prjV m x y z 2 = redV (rowV m 0 x y z) (rowV m 1 x y z) (rowV m 2 x y z) (rowV m 2 x y z) from fun a b => ⟨(prj_0 h1 h2 a b).1, (prj_0 h1 h2 a b).2 0, (prj_0 h1 h2 a b).2 1, (prj_0 h1 h2 a b).2 2⟩)
  have h9 : 9 = m.length := HM.out.symm
  have H9 := Lib.hid h9
  clear hcell q1 q2 q3 hg hA hn h9
  go_enter Try.func24, Try.ntmps24
  go_wp2_with fail
  go_at_call 33; refine (IsProjection9_I _ _ _ HM.out _ (by repeat (with_reducible first | exact HI.out | assumption | refine Ints.drew ?_ | refine Ints.drewN _ ?_ | refine Ints.alloc _ ?_ | refine Ints.step (by assumption) ?_))).mono ?_; rintro e w1 ⟨rfl, hb1⟩; obtain ⟨hc1, hf1, hz1⟩ := bel hb1; (try simp only [World.size_drew, World.cell?_drew, World.frozen?_drew] at hc1 hf1 hz1); (try simp only [World.heap_drewN, World.cell?_drewN, World.frozen?_drewN] at hc1 hf1 hz1); (try have hl1 : w.heap.size < w1.heap.size := by (have hq := hb1.size; (try simp at hq); omega)); (try have hm1 : w.heap.size + 1 < w1.heap.size := by (have hq := hb1.size; (try simp at hq); omega)); (try have hn1 : w.heap.size + 1 + 1 < w1.heap.size := by (have hq := hb1.size; (try simp at hq); omega)); (try have hp1 : b < w1.heap.size := by (have hq := hb1.size; (try simp at hq); omega)); (try have ho1 : b' < w1.heap.size := by (have hq := hb1.size; (try simp at hq); omega))
  rw [h1]
  go_wp2_with fail
  go_at_call 90; refine (isRational_c _ _ _ _).mono ?_; rintro e w2 ⟨rfl, hb2⟩; obtain ⟨hc2, hf2, hz2⟩ := bel hb2; (try simp only [World.size_drew, World.cell?_drew, World.frozen?_drew] at hc2 hf2 hz2); (try simp only [World.heap_drewN, World.cell?_drewN, World.frozen?_drewN] at hc2 hf2 hz2); (try have hl2 : w.heap.size < w2.heap.size := by (have hq := hb2.size; (try simp at hq); omega)); (try have hm2 : w.heap.size + 1 < w2.heap.size := by (have hq := hb2.size; (try simp at hq); omega)); (try have hn2 : w.heap.size + 1 + 1 < w2.heap.size := by (have hq := hb2.size; (try simp at hq); omega)); (try have hp2 : b < w2.heap.size := by (have hq := hb2.size; (try simp at hq); omega)); (try have ho2 : b' < w2.heap.size := by (have hq := hb2.size; (try simp at hq); omega))
  rw [h2]
  have hbel2 : Below w.heap.size w w2 := by repeat (with_reducible first | exact Below.refl _ _ | assumption | refine Bel.alloc ?_ _ | refine Bel.step (by assumption) ?_ | refine Below.drew ?_ | refine Bel.drewN ?_ _ | refine Below.setCell ?_ (by first | exact Nat.le_refl _ | omega | (simp; done) | (simp; omega)) _)
  have BX : Blk w2 w.heap.size 45 #[.int .i64 x, .int .i64 y, .int .i64 z] := Blk.step hb2 (Blk.step hb1 (Blk.alloc _ (Blk.new _ _ _)))
  have BZ : Blk w2 (w.heap.size + 1) 45 #[.int .i64 0, .int .i64 0, .int .i64 0] := Blk.step hb2 (Blk.step hb1 (by simpa using Blk.new (w.alloc _) 45 #[.int .i64 0, .int .i64 0, .int .i64 0]))
  have hs2 : w.heap.size + 2 ≤ w2.heap.size := by have := BZ.lt; omega
  have HBX := Lib.hid BX
  have HBZ := Lib.hid BZ
  clear hb1 hc1 hf1 hz1 hb2 hc2 hf2 hz2 BX BZ
  go_wp2
  go_loopw [6, 7] (fun v i wr => ∃ k : Nat, k ≤ 3 ∧ i = .int .i64 (3 * k) ∧ Own wr (w.heap.size + 2) 2 v (rowL m x y z k) ∧ Hid (Blk wr w.heap.size 45 #[.int .i64 x, .int .i64 y, .int .i64 z]) ∧ Hid (Blk wr (w.heap.size + 1) 45 #[.int .i64 0, .int .i64 0, .int .i64 0]) ∧ Below w.heap.size w wr) (fun _ i _ => 9 - (intOf i).toNat)
  case atStart => exact ⟨0, Nat.zero_le _, rfl, Own.new _ _ _ (by omega), Lib.hid (Blk.alloc _ HBX.out), Lib.hid (Blk.alloc _ HBZ.out), by repeat (with_reducible first | exact Below.refl _ _ | assumption | refine Bel.alloc ?_ _ | refine Bel.step (by assumption) ?_ | refine Below.drew ?_ | refine Bel.drewN ?_ _ | refine Below.setCell ?_ (by first | exact Nat.le_refl _ | omega | (simp; done) | (simp; omega)) _)⟩
  case round =>
    obtain ⟨k, hk, rfl, hO, HB1, HB2, hbel⟩ := hrel
    by_cases hlt : k < 3
    · obtain ⟨b', o', e', hb', hcell⟩ := Ints.step hbel HI.out (by rw [← H9.out]; omega)
      cases e'
      have c0 := hcell (3 * k) (by rw [← H9.out]; omega)
      have c1 := hcell (3 * k + 1) (by rw [← H9.out]; omega)
      have c2 := hcell (3 * k + 2) (by rw [← H9.out]; omega)
      obtain ⟨u1, u2, u3, u4, u5, u6, u7⟩ := row_wr (BD.out (3 * k)) (BD.out (3 * k + 1)) (BD.out (3 * k + 2)) H2.out
      have HS := Lib.hid (show rowL m x y z (k + 1) = rowL m x y z k ++ [m.getD (3 * k) 0 * x + m.getD (3 * k + 1) 0 * y + m.getD (3 * k + 2) 0 * z] from rfl)
      have hL := rowL_len m x y z k
      have hL' : (rowL m x y z k).length ≤ 3 := by omega
      clear hL hcell
      generalize m.getD (3 * k) 0 = d0 at *
      generalize m.getD (3 * k + 1) 0 = d1 at *
      generalize m.getD (3 * k + 2) 0 = d2 at *
      have p0 : wr.cell? ⟨w.heap.size, 0, none⟩ = some (.int .i64 x) := by rw [HB1.out.cell]; rfl
      have p1 : wr.cell? ⟨w.heap.size, 1, none⟩ = some (.int .i64 y) := by rw [HB1.out.cell]; rfl
      have p2 : wr.cell? ⟨w.heap.size, 2, none⟩ = some (.int .i64 z) := by rw [HB1.out.cell]; rfl
      have x1 : (3 * (k : Int)).toNat = 3 * k := by omega
      have x2 : (3 * (k : Int) + 1).toNat = 3 * k + 1 := by omega
      have x3 : (3 * (k : Int) + 2).toNat = 3 * k + 2 := by omega
      have x4 : 0 ≤ 3 * (k : Int) := by omega
      have x5 : 3 * (k : Int) < 9 := by omega
      have x6 : 0 ≤ 3 * (k : Int) + 1 := by omega
      have x7 : 3 * (k : Int) + 1 < 9 := by omega
      have x8 : 0 ≤ 3 * (k : Int) + 2 := by omega
      have x9 : 3 * (k : Int) + 2 < 9 := by omega
      have hsr : w.heap.size + 2 ≤ wr.heap.size := by have := HB2.out.lt; omega
      have x10 : IntKind.i64.wrap (3 * (k : Int) + 1) = 3 * (k : Int) + 1 := wr64 (by omega) (by omega)
      have x11 : IntKind.i64.wrap (3 * (k : Int) + 2) = 3 * (k : Int) + 2 := wr64 (by omega) (by omega)
      go_wp2
      have hbB : b < w.heap.size + 2 := by omega
      have hwB : w.heap.size < w.heap.size + 2 := by omega
      go_region_held3 (fun w' => w'.cell? ⟨b, o + 3 * k, none⟩ = some (.int .i64 d0) ∧ w'.cell? ⟨b, o + (3 * k + 1), none⟩ = some (.int .i64 d1) ∧ w'.cell? ⟨b, o + (3 * k + 2), none⟩ = some (.int .i64 d2) ∧ w'.cell? ⟨w.heap.size, 0, none⟩ = some (.int .i64 x) ∧ w'.cell? ⟨w.heap.size, 1, none⟩ = some (.int .i64 y) ∧ w'.cell? ⟨w.heap.size, 2, none⟩ = some (.int .i64 z))
        (first
          | go_keep
          | (go_split_ands
             exact ⟨(Below.cell_ hb1 b _ hbB).trans (by assumption), (Below.cell_ hb1 b _ hbB).trans (by assumption), (Below.cell_ hb1 b _ hbB).trans (by assumption), (Below.cell_ hb1 w.heap.size _ hwB).trans (by assumption), (Below.cell_ hb1 w.heap.size _ hwB).trans (by assumption), (Below.cell_ hb1 w.heap.size _ hwB).trans (by assumption)⟩))
        ((refine step_app1 (by rfl) _ _ 43 (by rfl) (w.heap.size + 2) 2 Try.underlying43 info64 _ _ (d0 * x + d1 * y + d2 * z) (by rfl) ((Own.alloc _ hO).drew) wr.heap.size (by rfl) (by simp [go_sem]) (by omega) (by simp; omega) ?_; intro v1 w1 hO1 hb1))
      go_wp2
      go_roundw
      case rel =>
        have hRR : ∃ l' : Nat, l' ≤ 3 ∧ Value.int .i64 (3 * (k : Int) + 3) = .int .i64 (3 * l') ∧ Own w1 (w.heap.size + 2) 2 v1 (rowL m x y z l') ∧ Hid (Blk w1 w.heap.size 45 #[.int .i64 x, .int .i64 y, .int .i64 z]) ∧ Hid (Blk w1 (w.heap.size + 1) 45 #[.int .i64 0, .int .i64 0, .int .i64 0]) ∧ Below w.heap.size w w1 := ⟨k + 1, by omega, by go_num, by rw [HS.out]; exact hO1, Lib.hid ((hb1.block _ (by omega)).trans (Blk.alloc _ HB1.out).drew), Lib.hid ((hb1.block _ (by omega)).trans (Blk.alloc _ HB2.out).drew), (show Below w.heap.size w (wr.alloc (.cells #[.int .i64 (d0 * x + d1 * y + d2 * z)] 2)).drew by repeat (with_reducible first | exact Below.refl _ _ | assumption | refine Bel.alloc ?_ _ | refine Bel.step (by assumption) ?_ | refine Below.drew ?_ | refine Bel.drewN ?_ _ | refine Below.setCell ?_ (by first | exact Nat.le_refl _ | omega | (simp; done) | (simp; omega)) _)).trans (hb1.mono (by omega))⟩
        first | exact hRR | ((repeat apply Exists.intro); exact ⟨hRR, rfl⟩)
      case measure => simp [intOf]; omega
    · obtain rfl : k = 3 := by omega
      obtain ⟨A', c', rfl, hcc, _, hI, _⟩ := hO.form
      obtain ⟨b', o', e', hb', hc'⟩ := hI (by simp [rowL_len])
      cases e'
      have r0 : wr.cell? ⟨b', o', none⟩ = some (.int .i64 (rowV m 0 x y z)) := hc' 0 (by simp [rowL_len])
      have r1 : wr.cell? ⟨b', o' + 1, none⟩ = some (.int .i64 (rowV m 1 x y z)) := hc' 1 (by simp [rowL_len])
      have r2 : wr.cell? ⟨b', o' + 2, none⟩ = some (.int .i64 (rowV m 2 x y z)) := hc' 2 (by simp [rowL_len])
      obtain ⟨_, _, _, _, _, a1, a2⟩ := row_wr (BD.out 0) (BD.out 1) (BD.out 2) H2.out
      obtain ⟨_, _, _, _, _, a3, a4⟩ := row_wr (BD.out 3) (BD.out 4) (BD.out 5) H2.out
      obtain ⟨_, _, _, _, _, a5, a6⟩ := row_wr (BD.out 6) (BD.out 7) (BD.out 8) H2.out
      rw [← HR0.out] at a1 a2
      rw [← HR1.out] at a3 a4
      rw [← HR2.out] at a5 a6
      rw [rowL_len]
      have p0 : wr.cell? ⟨w.heap.size, 0, none⟩ = some (.int .i64 x) := by rw [HB1.out.cell]; rfl
      have p1 : wr.cell? ⟨w.heap.size, 1, none⟩ = some (.int .i64 y) := by rw [HB1.out.cell]; rfl
      have p2 : wr.cell? ⟨w.heap.size, 2, none⟩ = some (.int .i64 z) := by rw [HB1.out.cell]; rfl
      have z0 : wr.cell? ⟨w.heap.size + 1, 0, none⟩ = some (.int .i64 0) := by rw [HB2.out.cell]; rfl
      have z1 : wr.cell? ⟨w.heap.size + 1, 1, none⟩ = some (.int .i64 0) := by rw [HB2.out.cell]; rfl
      have z2 : wr.cell? ⟨w.heap.size + 1, 2, none⟩ = some (.int .i64 0) := by rw [HB2.out.cell]; rfl
      have f0 := HB2.out.frozen 0
      have f1 := HB2.out.frozen 1
      have f2 := HB2.out.frozen 2
      have hsr : w.heap.size + 1 < wr.heap.size := HB2.out.lt
      generalize rowV m 0 x y z = X at *
      generalize rowV m 1 x y z = Y at *
      generalize rowV m 2 x y z = Z at *
      clear hc' hI hO hcc HB1 HB2
      go_wp2
      apply cut_Pj
      · intro key
        go_region_held3 (fun w' => w'.cell? ⟨b', o', none⟩ = some (.int .i64 X) ∧ w'.cell? ⟨b', o' + 1, none⟩ = some (.int .i64 Y) ∧ w'.cell? ⟨b', o' + 2, none⟩ = some (.int .i64 Z)) (simp [go_sem, *])
            (first | (go_at_call 91; refine (reduced_c _ _ _ (by omega) (by omega) (by omega) (by omega) (by omega) (by omega) _).mono ?_; rintro e w1 ⟨rfl, hb1⟩; obtain ⟨hc1, hf1, hz1⟩ := bel hb1; (try simp only [World.size_drew, World.cell?_drew, World.frozen?_drew] at hc1 hf1 hz1); (try simp only [World.heap_drewN, World.cell?_drewN, World.frozen?_drewN] at hc1 hf1 hz1); (try have hl1 : w.heap.size < w1.heap.size := by (have hq := hb1.size; (try simp at hq); omega)); (try have hm1 : w.heap.size + 1 < w1.heap.size := by (have hq := hb1.size; (try simp at hq); omega)); (try have hn1 : w.heap.size + 1 + 1 < w1.heap.size := by (have hq := hb1.size; (try simp at hq); omega)); (try have hp1 : b < w1.heap.size := by (have hq := hb1.size; (try simp at hq); omega)); (try have ho1 : b' < w1.heap.size := by (have hq := hb1.size; (try simp at hq); omega))))
        · generalize hW : w1.alloc (.cells #[.int .i64 (redV X Y Z X), .int .i64 (redV X Y Z Y), .int .i64 (redV X Y Z Z)] 45) = W
          have hbW : Below wr.heap.size wr W := by rw [← hW]; repeat (with_reducible first | exact Below.refl _ _ | assumption | refine Bel.alloc ?_ _ | refine Bel.step (by assumption) ?_ | refine Below.drew ?_ | refine Bel.drewN ?_ _ | refine Below.setCell ?_ (by first | exact Nat.le_refl _ | omega | (simp; done) | (simp; omega)) _)
          have c0 : W.cell? ⟨w1.heap.size, 0, none⟩ = some (.int .i64 (redV X Y Z X)) := by rw [← hW]; simp [go_sem]
          have c1 : W.cell? ⟨w1.heap.size, 1, none⟩ = some (.int .i64 (redV X Y Z Y)) := by rw [← hW]; simp [go_sem]
          have c2 : W.cell? ⟨w1.heap.size, 2, none⟩ = some (.int .i64 (redV X Y Z Z)) := by rw [← hW]; simp [go_sem]
          have hB : w1.heap.size < W.heap.size := by rw [← hW]; simp
          have hB' : wr.heap.size ≤ w1.heap.size := by have := hb1.size; (try simp at this); omega
          clear hW
          generalize w1.heap.size = B at c0 c1 c2 hB hB' ⊢
          revert hbW c0 c1 c2 hB hB'
          revert W B
          exact key.out
        all_goals
          have zb : wr.heap.size ≤ w1.heap.size := by have := hb1.size; (try simp at this); omega
          refine key.out _ _ ?_ ?_ ?_ ?_ ?_ ?_
          · repeat (with_reducible first | exact Below.refl _ _ | assumption | refine Bel.alloc ?_ _ | refine Bel.step (by assumption) ?_ | refine Below.drew ?_ | refine Bel.drewN ?_ _ | refine Below.setCell ?_ (by first | exact Nat.le_refl _ | omega | (simp; done) | (simp; omega)) _)
          all_goals first | (simp [go_sem, *]; done) | (simp; omega) | omega
      · intro W B hbW c0 c1 c2 hB hB'
        have lw : w.heap.size < wr.heap.size := by omega
        have hbelW := Bel.step hbW hbel
        have P0 := ((bel hbW).1 _ _ lw).trans p0
        have P1 := ((bel hbW).1 _ _ lw).trans p1
        have P2 := ((bel hbW).1 _ _ lw).trans p2
        have Z0 := ((bel hbW).1 _ _ hsr).trans z0
        have Z1 := ((bel hbW).1 _ _ hsr).trans z1
        have Z2 := ((bel hbW).1 _ _ hsr).trans z2
        have G0 := ((bel hbW).2.1 _ _ hsr).trans f0
        have G1 := ((bel hbW).2.1 _ _ hsr).trans f1
        have G2 := ((bel hbW).2.1 _ _ hsr).trans f2
        have lW := (bel hbW).2.2 _ lw
        have lW1 := (bel hbW).2.2 _ hsr
        have nB : w.heap.size + 1 ≠ B := by omega
        have nB' : B ≠ w.heap.size + 1 := by omega
        clear hbW p0 p1 p2 z0 z1 z2 f0 f1 f2 r0 r1 r2
        by_cases hc : redC X Y Z = 0
        · have hz : Z ≠ 0 := by
            intro e
            subst e
            rw [redC_5.1] at hc
            cases hc
          by_cases c4 : smlB9 x y z = true
          · have HV := Lib.hid (h0.out hz c4)
            have HC := Lib.hid hc
            rw [hc]
            simp only [smlB9, Bool.and_eq_true, decide_eq_true_eq] at c4
            obtain ⟨⟨j1, j2⟩, j3⟩ := c4
            clear hc
            go_wp2_with (first | (go_at_call 75; refine (within_c _ _ _ _).mono ?_; rintro e w' ⟨rfl, rfl⟩))
            refine bodyPost_ret (v := .tuple #[.agg #[.int .i64 (redV X Y Z X), .int .i64 (redV X Y Z Y), .int .i64 (redV X Y Z Z)], .int .i64 0]) (by simp [results, Try.results24, go_sem, *]) rfl ⟨by rw [HV.out.1, HV.out.2.1, HV.out.2.2.1, HV.out.2.2.2, HC.out], by repeat (with_reducible first | exact Below.refl _ _ | assumption | refine Bel.alloc ?_ _ | refine Bel.step (by assumption) ?_ | refine Below.drew ?_ | refine Bel.drewN ?_ _ | refine Below.setCell ?_ (by first | exact Nat.le_refl _ | omega | (simp; done) | (simp; omega)) _)⟩
          · have c4' : smlB9 x y z = false := by simpa using c4
            have HV := Lib.hid (h3.out hz c4')
            rw [hc]
            clear hc
            simp only [smlB9] at c4'
            by_cases j1 : inB x (-1000000000) 1000000000 = true
            · by_cases j2 : inB y (-1000000000) 1000000000 = true
              · have j3 : 1000000000 < z := by
                  rw [j1, j2] at c4'
                  simp at c4'
                  omega
                clear c4 c4'
                go_wp2_with (first | (go_at_call 75; refine (within_c _ _ _ _).mono ?_; rintro e w' ⟨rfl, rfl⟩))
                refine bodyPost_ret (v := .tuple #[.agg #[.int .i64 0, .int .i64 0, .int .i64 0], .int .i64 3]) (by simp [results, Try.results24, go_sem, *]) rfl ⟨by rw [HV.out.1, HV.out.2, HV.out.2, HV.out.2], by repeat (with_reducible first | exact Below.refl _ _ | assumption | refine Bel.alloc ?_ _ | refine Bel.step (by assumption) ?_ | refine Below.drew ?_ | refine Bel.drewN ?_ _ | refine Below.setCell ?_ (by first | exact Nat.le_refl _ | omega | (simp; done) | (simp; omega)) _)⟩
              · have j2' : inB y (-1000000000) 1000000000 = false := by simpa using j2
                clear c4 c4' j2
                go_wp2_with (first | (go_at_call 75; refine (within_c _ _ _ _).mono ?_; rintro e w' ⟨rfl, rfl⟩))
                refine bodyPost_ret (v := .tuple #[.agg #[.int .i64 0, .int .i64 0, .int .i64 0], .int .i64 3]) (by simp [results, Try.results24, go_sem, *]) rfl ⟨by rw [HV.out.1, HV.out.2, HV.out.2, HV.out.2], by repeat (with_reducible first | exact Below.refl _ _ | assumption | refine Bel.alloc ?_ _ | refine Bel.step (by assumption) ?_ | refine Below.drew ?_ | refine Bel.drewN ?_ _ | refine Below.setCell ?_ (by first | exact Nat.le_refl _ | omega | (simp; done) | (simp; omega)) _)⟩
            · have j1' : inB x (-1000000000) 1000000000 = false := by simpa using j1
              clear c4 c4' j1
              go_wp2_with (first | (go_at_call 75; refine (within_c _ _ _ _).mono ?_; rintro e w' ⟨rfl, rfl⟩))
              refine bodyPost_ret (v := .tuple #[.agg #[.int .i64 0, .int .i64 0, .int .i64 0], .int .i64 3]) (by simp [results, Try.results24, go_sem, *]) rfl ⟨by rw [HV.out.1, HV.out.2, HV.out.2, HV.out.2], by repeat (with_reducible first | exact Below.refl _ _ | assumption | refine Bel.alloc ?_ _ | refine Bel.step (by assumption) ?_ | refine Below.drew ?_ | refine Bel.drewN ?_ _ | refine Below.setCell ?_ (by first | exact Nat.le_refl _ | omega | (simp; done) | (simp; omega)) _)⟩
        · have HR := Lib.hid (show ∀ u, redV X Y Z u = 0 from fun u => by simp [redV, hc])
          have HV : Hid (prjC m x y z = redC X Y Z ∧ prjV m x y z 0 = 0 ∧ prjV m x y z 1 = 0 ∧ prjV m x y z 2 = 0) := by
            by_cases hz : Z = 0
            · have := h5.out hz
              subst hz
              exact Lib.hid (by rw [redC_5.1]; exact ⟨this.1, this.2 0, this.2 1, this.2 2⟩)
            · have h3C : redC X Y Z = 3 := by
                cases hr : ratB (redQ X Y Z X) (redQ X Y Z Y) (redQ X Y Z Z) with
                | true => exact absurd (redC_0 hz hr).1 hc
                | false => exact (redC_3 hz hr).1
              by_cases c4 : smlB9 x y z = true
              · obtain ⟨q1, q2⟩ := h0.out hz c4
                exact Lib.hid ⟨q1, q2.1.trans (HR.out _), q2.2.1.trans (HR.out _), q2.2.2.trans (HR.out _)⟩
              · have c4' : smlB9 x y z = false := by simpa using c4
                rw [h3C]
                exact Lib.hid ⟨(h3.out hz c4').1, (h3.out hz c4').2 0, (h3.out hz c4').2 1, (h3.out hz c4').2 2⟩
          have b1 : (redC X Y Z == 0) = false := by simpa using hc
          rw [HR.out] at c0 c1 c2
          clear hc
          go_wp2
          refine bodyPost_ret (v := .tuple #[.agg #[.int .i64 0, .int .i64 0, .int .i64 0], .int .i64 (redC X Y Z)]) (by simp [results, Try.results24, go_sem, *]) rfl ⟨by rw [HV.out.1, HV.out.2.1, HV.out.2.2.1, HV.out.2.2.2], by repeat (with_reducible first | exact Below.refl _ _ | assumption | refine Bel.alloc ?_ _ | refine Bel.step (by assumption) ?_ | refine Below.drew ?_ | refine Bel.drewN ?_ _ | refine Below.setCell ?_ (by first | exact Nat.le_refl _ | omega | (simp; done) | (simp; omega)) _)⟩
end Go.Proofs.Ythfphjbaglgacaa
