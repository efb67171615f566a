/- The statements of chapter 25, walked. No conditions. -/
import Derived.Test.YteofdedbignhaaaProg
import Derived.Test.YteofdedbignhaaaBase
import Derived.Test.YteofdedbignhaaaL01
import Derived.Test.YteofdedbignhaaaCp
import Derived.Test.YteofdedbignhaaaL25
import Derived.Test.YteofdedbignhaaaL25b
import Derived.Test.YteofdedbignhaaaL25c
import Derived.Test.YteofdedbignhaaaL25d
import Derived.Test.YteofdedbignhaaaL25e
import Derived.WalkKit
import Derived.WalkSpells
import Derived.WalkLawsBesides
import Derived.Lib.Hide
namespace Go.Proofs.Yteofdedbignhaaa
open Go.RowKit
set_option linter.unusedVariables false
theorem FnExactIsProjection_w (w : World) (A : Option Addr) (c : Nat) (m : List Int) (hl : m.length ≤ 9223372036854775807) (hA : Ints w A m) :
    Calls Try.prog 5 #[.slice A m.length c] w fun e w' => e = .returned (.bool true) ∧ Below w.heap.size w w' := by
  by_cases hn : m.length ≤ 1048576
  · go_enter Try.func5, Try.ntmps5
    go_wp2_with fail
    go_at_call 21; refine (toInt64S_c _ _ _ hn _ hA).mono ?_; rintro e w1 ⟨rfl, hB1, hb1⟩; obtain ⟨hc1, hf1, hz1⟩ := bel hb1; (try have hl1 : w.heap.size < w1.heap.size := by (have hq := hb1.size; (try simp at hq); omega)); (try have hm1 : w.heap.size + 1 < w1.heap.size := by (have hq := hb1.size; (try simp at hq); omega)); (try have hn1 : w.heap.size + 1 + 1 < w1.heap.size := by (have hq := hb1.size; (try simp at hq); omega)); (try have hp1 : b < w1.heap.size := by (have hq := hb1.size; (try simp at hq); omega)); (try have ho1 : b' < w1.heap.size := by (have hq := hb1.size; (try simp at hq); omega))
    go_wp2_with fail
    go_at_call 20; refine (IsProjection_S _ _ _ hn _ hB1.ints).mono ?_; rintro e w2 ⟨rfl, hb2⟩; obtain ⟨hc2, hf2, hz2⟩ := bel hb2; (try simp only [World.size_drew, World.cell?_drew, World.frozen?_drew, World.heap_drewN, World.cell?_drewN, World.frozen?_drewN] at hc2 hf2 hz2); (try have hl2 : w.heap.size < w2.heap.size := by (have hq := hb2.size; (try simp at hq); omega)); (try have hm2 : w.heap.size + 1 < w2.heap.size := by (have hq := hb2.size; (try simp at hq); omega)); (try have hn2 : w.heap.size + 1 + 1 < w2.heap.size := by (have hq := hb2.size; (try simp at hq); omega)); (try have hp2 : b < w2.heap.size := by (have hq := hb2.size; (try simp at hq); omega)); (try have ho2 : b' < w2.heap.size := by (have hq := hb2.size; (try simp at hq); omega))
    go_wp2_with fail
    go_at_call 21; refine (toInt64S_c _ _ _ hn _ (Ints.step hb2 (Ints.step hb1 hA))).mono ?_; rintro e w3 ⟨rfl, hB3, hb3⟩; obtain ⟨hc3, hf3, hz3⟩ := bel hb3; (try have hl3 : w.heap.size < w3.heap.size := by (have hq := hb3.size; (try simp at hq); omega)); (try have hm3 : w.heap.size + 1 < w3.heap.size := by (have hq := hb3.size; (try simp at hq); omega)); (try have hn3 : w.heap.size + 1 + 1 < w3.heap.size := by (have hq := hb3.size; (try simp at hq); omega)); (try have hp3 : b < w3.heap.size := by (have hq := hb3.size; (try simp at hq); omega)); (try have ho3 : b' < w3.heap.size := by (have hq := hb3.size; (try simp at hq); omega))
    go_wp2_with fail
    go_at_call 22; refine (IsProjection_I _ _ _ hn _ hB3.ints).mono ?_; rintro e w4 ⟨rfl, hb4⟩; obtain ⟨hc4, hf4, hz4⟩ := bel hb4; (try simp only [World.size_drew, World.cell?_drew, World.frozen?_drew, World.heap_drewN, World.cell?_drewN, World.frozen?_drewN] at hc4 hf4 hz4); (try have hl4 : w.heap.size < w4.heap.size := by (have hq := hb4.size; (try simp at hq); omega)); (try have hm4 : w.heap.size + 1 < w4.heap.size := by (have hq := hb4.size; (try simp at hq); omega)); (try have hn4 : w.heap.size + 1 + 1 < w4.heap.size := by (have hq := hb4.size; (try simp at hq); omega)); (try have hp4 : b < w4.heap.size := by (have hq := hb4.size; (try simp at hq); omega)); (try have ho4 : b' < w4.heap.size := by (have hq := hb4.size; (try simp at hq); omega))
    have hB4 := Blk.step hb4 hB3
    go_wp2_with fail
    go_at_call 21; refine (toInt64S_c _ _ _ hn _ (Ints.step hb4 (Ints.step hb3 (Ints.step hb2 (Ints.step hb1 hA))))).mono ?_; rintro e w5 ⟨rfl, hB5, hb5⟩; obtain ⟨hc5, hf5, hz5⟩ := bel hb5; (try have hl5 : w.heap.size < w5.heap.size := by (have hq := hb5.size; (try simp at hq); omega)); (try have hm5 : w.heap.size + 1 < w5.heap.size := by (have hq := hb5.size; (try simp at hq); omega)); (try have hn5 : w.heap.size + 1 + 1 < w5.heap.size := by (have hq := hb5.size; (try simp at hq); omega)); (try have hp5 : b < w5.heap.size := by (have hq := hb5.size; (try simp at hq); omega)); (try have ho5 : b' < w5.heap.size := by (have hq := hb5.size; (try simp at hq); omega))
    go_wp2_with fail
    go_at_call 23; refine (toB (eqInt64S_c _ _ _ _ _ _ hn hn _ (Blk.step hb5 hB4).ints hB5.ints)).mono ?_; rintro e w6 ⟨rfl, hb6⟩; obtain ⟨hc6, hf6, hz6⟩ := bel hb6; (try simp only [World.size_drew, World.cell?_drew, World.frozen?_drew, World.heap_drewN, World.cell?_drewN, World.frozen?_drewN] at hc6 hf6 hz6); (try have hl6 : w.heap.size < w6.heap.size := by (have hq := hb6.size; (try simp at hq); omega)); (try have hm6 : w.heap.size + 1 < w6.heap.size := by (have hq := hb6.size; (try simp at hq); omega)); (try have hn6 : w.heap.size + 1 + 1 < w6.heap.size := by (have hq := hb6.size; (try simp at hq); omega)); (try have hp6 : b < w6.heap.size := by (have hq := hb6.size; (try simp at hq); omega)); (try have ho6 : b' < w6.heap.size := by (have hq := hb6.size; (try simp at hq); omega))
    rw [eqL_self]
    go_wp2
    go_ret
    exact ⟨rfl, by repeat (with_reducible first | exact Below.refl _ _ | assumption | refine Bel.alloc ?_ _ | refine Bel.step (by assumption) ?_ | refine Below.drew ?_ | refine Bel.drewN ?_ _ | refine Below.setCell ?_ (by first | exact Nat.le_refl _ | omega | (simp; done) | (simp; omega)) _)⟩
  · go_enter Try.func5, Try.ntmps5
    go_wp2
    go_ret
    exact ⟨rfl, by repeat (with_reducible first | exact Below.refl _ _ | assumption | refine Bel.alloc ?_ _ | refine Bel.step (by assumption) ?_ | refine Below.drew ?_ | refine Bel.drewN ?_ _ | refine Below.setCell ?_ (by first | exact Nat.le_refl _ | omega | (simp; done) | (simp; omega)) _)⟩
theorem FnExactMakeRational_w (w : World) (x : Int) (g0 : (Lit.int .i64 x).wf = true) (y : Int) (g1 : (Lit.int .i64 y).wf = true) (z : Int) (g2 : (Lit.int .i64 z).wf = true) :
    Calls Try.prog 6 #[.int .i64 x, .int .i64 y, .int .i64 z] w fun e w' => e = .returned (.bool true) ∧ Below w.heap.size w w' := by
  have hE := eqR_self
  go_enter Try.func6, Try.ntmps6
  go_wp2_with (first | (go_at_call 24; refine (MakeRational_S _ _ _ _).mono ?_; rintro e w1 ⟨rfl, hb1⟩; obtain ⟨hc1, hf1, hz1⟩ := bel hb1; (try simp only [World.size_drew, World.cell?_drew, World.frozen?_drew, World.heap_drewN, World.cell?_drewN, World.frozen?_drewN] at hc1 hf1 hz1); (try have hl1 : w.heap.size < w1.heap.size := by (have hq := hb1.size; (try simp at hq); omega)); (try have hm1 : w.heap.size + 1 < w1.heap.size := by (have hq := hb1.size; (try simp at hq); omega)); (try have hn1 : w.heap.size + 1 + 1 < w1.heap.size := by (have hq := hb1.size; (try simp at hq); omega)); (try have hp1 : b < w1.heap.size := by (have hq := hb1.size; (try simp at hq); omega)); (try have ho1 : b' < w1.heap.size := by (have hq := hb1.size; (try simp at hq); omega))) | (go_at_call 25; refine (MakeRational_I _ _ _ _).mono ?_; rintro e w1 ⟨rfl, hb1⟩; obtain ⟨hc1, hf1, hz1⟩ := bel hb1; (try simp only [World.size_drew, World.cell?_drew, World.frozen?_drew, World.heap_drewN, World.cell?_drewN, World.frozen?_drewN] at hc1 hf1 hz1); (try have hl1 : w.heap.size < w1.heap.size := by (have hq := hb1.size; (try simp at hq); omega)); (try have hm1 : w.heap.size + 1 < w1.heap.size := by (have hq := hb1.size; (try simp at hq); omega)); (try have hn1 : w.heap.size + 1 + 1 < w1.heap.size := by (have hq := hb1.size; (try simp at hq); omega)); (try have hp1 : b < w1.heap.size := by (have hq := hb1.size; (try simp at hq); omega)); (try have ho1 : b' < w1.heap.size := by (have hq := hb1.size; (try simp at hq); omega))) | (go_at_call 26; refine (eqRational_c _ _ _ _ _ _ _).mono ?_; rintro e w1 ⟨rfl, hb1⟩; obtain ⟨hc1, hf1, hz1⟩ := bel hb1; (try simp only [World.size_drew, World.cell?_drew, World.frozen?_drew, World.heap_drewN, World.cell?_drewN, World.frozen?_drewN] at hc1 hf1 hz1); (try have hl1 : w.heap.size < w1.heap.size := by (have hq := hb1.size; (try simp at hq); omega)); (try have hm1 : w.heap.size + 1 < w1.heap.size := by (have hq := hb1.size; (try simp at hq); omega)); (try have hn1 : w.heap.size + 1 + 1 < w1.heap.size := by (have hq := hb1.size; (try simp at hq); omega)); (try have hp1 : b < w1.heap.size := by (have hq := hb1.size; (try simp at hq); omega)); (try have ho1 : b' < w1.heap.size := by (have hq := hb1.size; (try simp at hq); omega))))
  go_ret
  exact ⟨rfl, by repeat (with_reducible first | exact Below.refl _ _ | assumption | refine Bel.alloc ?_ _ | refine Bel.step (by assumption) ?_ | refine Below.drew ?_ | refine Bel.drewN ?_ _ | refine Below.setCell ?_ (by first | exact Nat.le_refl _ | omega | (simp; done) | (simp; omega)) _)⟩
theorem FnExactInverseProjection_w (w : World) (A : Option Addr) (c : Nat) (m : List Int) (hl : m.length ≤ 9223372036854775807) (hA : Ints w A m) :
    Calls Try.prog 13 #[.slice A m.length c] w fun e w' => e = .returned (.bool true) ∧ Below w.heap.size w w' := by
  by_cases hn : m.length ≤ 1048576
  · have hL := invR_len m
    have hq0 : 0 ≤ ((invR m).length : Int) := by omega
    go_enter Try.func13, Try.ntmps13
    go_wp2_with fail
    go_at_call 21; refine (toInt64S_c _ _ _ hn _ hA).mono ?_; rintro e w1 ⟨rfl, hB1, hb1⟩; obtain ⟨hc1, hf1, hz1⟩ := bel hb1; (try have hl1 : w.heap.size < w1.heap.size := by (have hq := hb1.size; (try simp at hq); omega)); (try have hm1 : w.heap.size + 1 < w1.heap.size := by (have hq := hb1.size; (try simp at hq); omega)); (try have hn1 : w.heap.size + 1 + 1 < w1.heap.size := by (have hq := hb1.size; (try simp at hq); omega)); (try have hp1 : b < w1.heap.size := by (have hq := hb1.size; (try simp at hq); omega)); (try have ho1 : b' < w1.heap.size := by (have hq := hb1.size; (try simp at hq); omega))
    go_wp2_with fail
    go_at_call 46; refine (InverseProjection_S _ _ _ hn _ hB1.ints).mono ?_; rintro e w2 ⟨v2, rfl, hO2, hb2⟩; obtain ⟨A2, kk2, rfl, hcc2, hcm2, hI2, hF2⟩ := hO2.form; clear hF2; obtain ⟨hc2, hf2, hz2⟩ := bel hb2; (try have hl2 : w.heap.size < w2.heap.size := by (have hq := hb2.size; (try simp at hq); omega)); (try have hm2 : w.heap.size + 1 < w2.heap.size := by (have hq := hb2.size; (try simp at hq); omega)); (try have hn2 : w.heap.size + 1 + 1 < w2.heap.size := by (have hq := hb2.size; (try simp at hq); omega)); (try have hp2 : b < w2.heap.size := by (have hq := hb2.size; (try simp at hq); omega)); (try have ho2 : b' < w2.heap.size := by (have hq := hb2.size; (try simp at hq); omega))
    go_wp2_with fail
    go_at_call 21; refine (toInt64S_c _ _ _ hn _ (Ints.step hb2 (Ints.step hb1 hA))).mono ?_; rintro e w3 ⟨rfl, hB3, hb3⟩; obtain ⟨hc3, hf3, hz3⟩ := bel hb3; (try have hl3 : w.heap.size < w3.heap.size := by (have hq := hb3.size; (try simp at hq); omega)); (try have hm3 : w.heap.size + 1 < w3.heap.size := by (have hq := hb3.size; (try simp at hq); omega)); (try have hn3 : w.heap.size + 1 + 1 < w3.heap.size := by (have hq := hb3.size; (try simp at hq); omega)); (try have hp3 : b < w3.heap.size := by (have hq := hb3.size; (try simp at hq); omega)); (try have ho3 : b' < w3.heap.size := by (have hq := hb3.size; (try simp at hq); omega))
    go_wp2_with fail
    go_at_call 47; refine (InverseProjection_I _ _ _ hn _ hB3.ints).mono ?_; rintro e w4 ⟨v4, rfl, hO4, hb4⟩; obtain ⟨A4, kk4, rfl, hcc4, hcm4, hI4, hF4⟩ := hO4.form; clear hF4; obtain ⟨hc4, hf4, hz4⟩ := bel hb4; (try have hl4 : w.heap.size < w4.heap.size := by (have hq := hb4.size; (try simp at hq); omega)); (try have hm4 : w.heap.size + 1 < w4.heap.size := by (have hq := hb4.size; (try simp at hq); omega)); (try have hn4 : w.heap.size + 1 + 1 < w4.heap.size := by (have hq := hb4.size; (try simp at hq); omega)); (try have hp4 : b < w4.heap.size := by (have hq := hb4.size; (try simp at hq); omega)); (try have ho4 : b' < w4.heap.size := by (have hq := hb4.size; (try simp at hq); omega))
    have s1 := hb1.size
    have s2 := hb2.size
    have s3 := hb3.size
    have s4 := hb4.size
    have hO2a := Own.step hb4 (Own.step hb3 hO2)
    go_wp2_with fail
    go_at_call 23; refine (toB (eqInt64S_c _ _ _ _ _ _ (by omega) (by omega) _ hI4 hO2a.ints)).mono ?_; rintro e w5 ⟨rfl, hb5⟩; obtain ⟨hc5, hf5, hz5⟩ := bel hb5; (try simp only [World.size_drew, World.cell?_drew, World.frozen?_drew, World.heap_drewN, World.cell?_drewN, World.frozen?_drewN] at hc5 hf5 hz5); (try have hl5 : w.heap.size < w5.heap.size := by (have hq := hb5.size; (try simp at hq); omega)); (try have hm5 : w.heap.size + 1 < w5.heap.size := by (have hq := hb5.size; (try simp at hq); omega)); (try have hn5 : w.heap.size + 1 + 1 < w5.heap.size := by (have hq := hb5.size; (try simp at hq); omega)); (try have hp5 : b < w5.heap.size := by (have hq := hb5.size; (try simp at hq); omega)); (try have ho5 : b' < w5.heap.size := by (have hq := hb5.size; (try simp at hq); omega))
    rw [eqL_self]
    have hbel5 : Below w.heap.size w w5 := by repeat (with_reducible first | exact Below.refl _ _ | assumption | refine Bel.alloc ?_ _ | refine Bel.step (by assumption) ?_ | refine Below.drew ?_ | refine Bel.drewN ?_ _ | refine Below.setCell ?_ (by first | exact Nat.le_refl _ | omega | (simp; done) | (simp; omega)) _)
    go_wp2_with fail
    go_at_call 21; refine (toInt64S_c _ _ _ hn _ (Ints.step hbel5 hA)).mono ?_; rintro e w6 ⟨rfl, hB6, hb6⟩; obtain ⟨hc6, hf6, hz6⟩ := bel hb6; (try have hl6 : w.heap.size < w6.heap.size := by (have hq := hb6.size; (try simp at hq); omega)); (try have hm6 : w.heap.size + 1 < w6.heap.size := by (have hq := hb6.size; (try simp at hq); omega)); (try have hn6 : w.heap.size + 1 + 1 < w6.heap.size := by (have hq := hb6.size; (try simp at hq); omega)); (try have hp6 : b < w6.heap.size := by (have hq := hb6.size; (try simp at hq); omega)); (try have ho6 : b' < w6.heap.size := by (have hq := hb6.size; (try simp at hq); omega))
    have hB3b := Blk.step hb6 (Blk.step hb5 (Blk.step hb4 hB3))
    go_wp2_with fail
    go_at_call 23; refine (toB (eqInt64S_c _ _ _ _ _ _ hn hn _ hB3b.ints hB6.ints)).mono ?_; rintro e w7 ⟨rfl, hb7⟩; obtain ⟨hc7, hf7, hz7⟩ := bel hb7; (try simp only [World.size_drew, World.cell?_drew, World.frozen?_drew, World.heap_drewN, World.cell?_drewN, World.frozen?_drewN] at hc7 hf7 hz7); (try have hl7 : w.heap.size < w7.heap.size := by (have hq := hb7.size; (try simp at hq); omega)); (try have hm7 : w.heap.size + 1 < w7.heap.size := by (have hq := hb7.size; (try simp at hq); omega)); (try have hn7 : w.heap.size + 1 + 1 < w7.heap.size := by (have hq := hb7.size; (try simp at hq); omega)); (try have hp7 : b < w7.heap.size := by (have hq := hb7.size; (try simp at hq); omega)); (try have ho7 : b' < w7.heap.size := by (have hq := hb7.size; (try simp at hq); omega))
    rw [eqL_self]
    have hX := Blk.own (Blk.step hb7 hB3b) (by unfold maxLen; omega) w.heap.size (by omega)
    have s5 := hb5.size
    have s6 := hb6.size
    have s7 := hb7.size
    have hbel7 : Below w.heap.size w w7 := by repeat (with_reducible first | exact Below.refl _ _ | assumption | refine Bel.alloc ?_ _ | refine Bel.step (by assumption) ?_ | refine Below.drew ?_ | refine Bel.drewN ?_ _ | refine Below.setCell ?_ (by first | exact Nat.le_refl _ | omega | (simp; done) | (simp; omega)) _)
    have hO2b := Own.step hb7 (Own.step hb6 (Own.step hb5 hO2a))
    have hO4b := Own.step hb7 (Own.step hb6 (Own.step hb5 hO4))
    go_wp2_with fail
    refine (markInt64S_c _ _ _ _ (by omega) (by omega) (by omega) _ hX).mono ?_; rintro e w8 ⟨rfl, hX8, hg8⟩
    have hbel8 : Below w.heap.size w w8 := Bel.grown hbel7 hg8 (fun k hk => (hX.lt k hk).1)
    have s8 := grown_size hg8
    have hO2c := Own.kept hO2b hg8 (show _ ∨ _ ≠ some w2.heap.size from own_ne_lo hO2 (Nat.le_refl _))
    have hO4c := Own.kept hO4b hg8 (show _ ∨ _ ≠ some w2.heap.size from own_ne_hi hO4b (by have := hB3.lt; omega))
    go_wp2_with fail
    go_at_call 23; refine (toB (eqInt64S_c _ _ _ _ _ _ (by omega) (by omega) _ hO4c.ints hO2c.ints)).mono ?_; rintro e w9 ⟨rfl, hb9⟩; obtain ⟨hc9, hf9, hz9⟩ := bel hb9; (try simp only [World.size_drew, World.cell?_drew, World.frozen?_drew, World.heap_drewN, World.cell?_drewN, World.frozen?_drewN] at hc9 hf9 hz9); (try have hl9 : w.heap.size < w9.heap.size := by (have hq := hb9.size; (try simp at hq); omega)); (try have hm9 : w.heap.size + 1 < w9.heap.size := by (have hq := hb9.size; (try simp at hq); omega)); (try have hn9 : w.heap.size + 1 + 1 < w9.heap.size := by (have hq := hb9.size; (try simp at hq); omega)); (try have hp9 : b < w9.heap.size := by (have hq := hb9.size; (try simp at hq); omega)); (try have ho9 : b' < w9.heap.size := by (have hq := hb9.size; (try simp at hq); omega))
    rw [eqL_self]
    have hO4d := Own.step hb9 hO4c
    go_wp2_with fail
    refine (markInt64S_c _ _ _ _ (by omega) (by omega) (by omega) _ hO4d).mono ?_; rintro e w10 ⟨rfl, hM10, hg10⟩
    have hbel9 : Below w.heap.size w w9 := Bel.step hb9 hbel8
    have hbel10 : Below w.heap.size w w10 := Bel.grown hbel9 hg10 (fun k hk => by have := (hO4d.lt k hk).1; omega)
    have s9 := hb9.size
    have s10 := grown_size hg10
    have hO2d := Own.kept (Own.step hb9 hO2c) hg10 (own_ne_own hO2 hO4 (by omega))
    go_wp2_with fail
    refine (heldInt64S_c _ _ _ _ (by omega) (by omega) (by omega) _ hM10).mono ?_; rintro e w' ⟨rfl, rfl⟩
    go_wp2_with fail
    go_at_call 21; refine (toInt64S_c _ _ _ hn _ (Ints.step hbel10 hA)).mono ?_; rintro e w11 ⟨rfl, hB11, hb11⟩; obtain ⟨hc11, hf11, hz11⟩ := bel hb11; (try have hl11 : w.heap.size < w11.heap.size := by (have hq := hb11.size; (try simp at hq); omega)); (try have hm11 : w.heap.size + 1 < w11.heap.size := by (have hq := hb11.size; (try simp at hq); omega)); (try have hn111 : w.heap.size + 1 + 1 < w11.heap.size := by (have hq := hb11.size; (try simp at hq); omega)); (try have hp11 : b < w11.heap.size := by (have hq := hb11.size; (try simp at hq); omega)); (try have ho11 : b' < w11.heap.size := by (have hq := hb11.size; (try simp at hq); omega))
    go_wp2_with fail
    go_at_call 47; refine (InverseProjection_I _ _ _ hn _ hB11.ints).mono ?_; rintro e w12 ⟨v12, rfl, hO12, hb12⟩; obtain ⟨A12, kk12, rfl, hcc12, hcm12, hI12, hF12⟩ := hO12.form; clear hF12; obtain ⟨hc12, hf12, hz12⟩ := bel hb12; (try have hl12 : w.heap.size < w12.heap.size := by (have hq := hb12.size; (try simp at hq); omega)); (try have hm12 : w.heap.size + 1 < w12.heap.size := by (have hq := hb12.size; (try simp at hq); omega)); (try have hn122 : w.heap.size + 1 + 1 < w12.heap.size := by (have hq := hb12.size; (try simp at hq); omega)); (try have hp12 : b < w12.heap.size := by (have hq := hb12.size; (try simp at hq); omega)); (try have ho12 : b' < w12.heap.size := by (have hq := hb12.size; (try simp at hq); omega))
    have hO2e := Own.step hb12 (Own.step hb11 hO2d)
    go_wp2_with fail
    go_at_call 23; refine (toB (eqInt64S_c _ _ _ _ _ _ (by omega) (by omega) _ hI12 hO2e.ints)).mono ?_; rintro e w13 ⟨rfl, hb13⟩; obtain ⟨hc13, hf13, hz13⟩ := bel hb13; (try simp only [World.size_drew, World.cell?_drew, World.frozen?_drew, World.heap_drewN, World.cell?_drewN, World.frozen?_drewN] at hc13 hf13 hz13); (try have hl13 : w.heap.size < w13.heap.size := by (have hq := hb13.size; (try simp at hq); omega)); (try have hm13 : w.heap.size + 1 < w13.heap.size := by (have hq := hb13.size; (try simp at hq); omega)); (try have hn133 : w.heap.size + 1 + 1 < w13.heap.size := by (have hq := hb13.size; (try simp at hq); omega)); (try have hp13 : b < w13.heap.size := by (have hq := hb13.size; (try simp at hq); omega)); (try have ho13 : b' < w13.heap.size := by (have hq := hb13.size; (try simp at hq); omega))
    rw [eqL_self]
    have hM13 := Own.step hb13 (Own.step hb12 (Own.step hb11 hM10))
    go_wp2_with fail
    refine (heldInt64S_c _ _ _ _ (by omega) (by omega) (by omega) _ hM13).mono ?_; rintro e w' ⟨rfl, rfl⟩
    go_wp2
    go_ret
    exact ⟨rfl, Bel.step hb13 (Bel.step hb12 (Bel.step hb11 hbel10))⟩
  · go_enter Try.func13, Try.ntmps13
    go_wp2
    go_ret
    exact ⟨rfl, by repeat (with_reducible first | exact Below.refl _ _ | assumption | refine Bel.alloc ?_ _ | refine Bel.step (by assumption) ?_ | refine Below.drew ?_ | refine Bel.drewN ?_ _ | refine Below.setCell ?_ (by first | exact Nat.le_refl _ | omega | (simp; done) | (simp; omega)) _)⟩
set_option maxHeartbeats 1000000 in
theorem FnExactComposeProjections_w (w : World) (A : Option Addr) (c : Nat) (a : List Int) (hl : a.length ≤ 9223372036854775807) (hA : Ints w A a) (B : Option Addr) (d : Nat) (b : List Int) (hl' : b.length ≤ 9223372036854775807) (hB : Ints w B b) :
    Calls Try.prog 12 #[.slice A a.length c, .slice B b.length d] w fun e w' => e = .returned (.bool true) ∧ Below w.heap.size w w' := by
  by_cases hn : a.length ≤ 1048576
  · by_cases hm : b.length ≤ 1048576
    · have hL := comR_len a b
      have hq0 : 0 ≤ ((comR a b).length : Int) := by omega
      go_enter Try.func12, Try.ntmps12
      go_wp2_with fail
      go_at_call 21; refine (toInt64S_c _ _ _ hn _ hA).mono ?_; rintro e w1 ⟨rfl, hB1, hb1⟩; obtain ⟨hc1, hf1, hz1⟩ := bel hb1; (try have hl1 : w.heap.size < w1.heap.size := by (have hq := hb1.size; (try simp at hq); omega)); (try have hm1 : w.heap.size + 1 < w1.heap.size := by (have hq := hb1.size; (try simp at hq); omega)); (try have hn1 : w.heap.size + 1 + 1 < w1.heap.size := by (have hq := hb1.size; (try simp at hq); omega)); (try have hp1 : b < w1.heap.size := by (have hq := hb1.size; (try simp at hq); omega)); (try have ho1 : b' < w1.heap.size := by (have hq := hb1.size; (try simp at hq); omega))
      go_wp2_with fail
      go_at_call 21; refine (toInt64S_c _ _ _ hm _ (Ints.step hb1 hB)).mono ?_; rintro e w2 ⟨rfl, hB2, hb2⟩; obtain ⟨hc2, hf2, hz2⟩ := bel hb2; (try have hl2 : w.heap.size < w2.heap.size := by (have hq := hb2.size; (try simp at hq); omega)); (try have hm2 : w.heap.size + 1 < w2.heap.size := by (have hq := hb2.size; (try simp at hq); omega)); (try have hn2 : w.heap.size + 1 + 1 < w2.heap.size := by (have hq := hb2.size; (try simp at hq); omega)); (try have hp2 : b < w2.heap.size := by (have hq := hb2.size; (try simp at hq); omega)); (try have ho2 : b' < w2.heap.size := by (have hq := hb2.size; (try simp at hq); omega))
      go_wp2_with fail
      go_at_call 42; refine (ComposeProjections_S _ _ _ _ _ _ hn hm _ (Blk.step hb2 hB1).ints hB2.ints).mono ?_; rintro e w3 ⟨v3, rfl, hO3, hb3⟩; obtain ⟨A3, kk3, rfl, hcc3, hcm3, hI3, hF3⟩ := hO3.form; clear hF3; obtain ⟨hc3, hf3, hz3⟩ := bel hb3; (try have hl3 : w.heap.size < w3.heap.size := by (have hq := hb3.size; (try simp at hq); omega)); (try have hm3 : w.heap.size + 1 < w3.heap.size := by (have hq := hb3.size; (try simp at hq); omega)); (try have hn3 : w.heap.size + 1 + 1 < w3.heap.size := by (have hq := hb3.size; (try simp at hq); omega)); (try have hp3 : b < w3.heap.size := by (have hq := hb3.size; (try simp at hq); omega)); (try have ho3 : b' < w3.heap.size := by (have hq := hb3.size; (try simp at hq); omega))
      have hbel3 : Below w.heap.size w w3 := by repeat (with_reducible first | exact Below.refl _ _ | assumption | refine Bel.alloc ?_ _ | refine Bel.step (by assumption) ?_ | refine Below.drew ?_ | refine Bel.drewN ?_ _ | refine Below.setCell ?_ (by first | exact Nat.le_refl _ | omega | (simp; done) | (simp; omega)) _)
      go_wp2_with fail
      go_at_call 21; refine (toInt64S_c _ _ _ hn _ (Ints.step hbel3 hA)).mono ?_; rintro e w4 ⟨rfl, hB4, hb4⟩; obtain ⟨hc4, hf4, hz4⟩ := bel hb4; (try have hl4 : w.heap.size < w4.heap.size := by (have hq := hb4.size; (try simp at hq); omega)); (try have hm4 : w.heap.size + 1 < w4.heap.size := by (have hq := hb4.size; (try simp at hq); omega)); (try have hn4 : w.heap.size + 1 + 1 < w4.heap.size := by (have hq := hb4.size; (try simp at hq); omega)); (try have hp4 : b < w4.heap.size := by (have hq := hb4.size; (try simp at hq); omega)); (try have ho4 : b' < w4.heap.size := by (have hq := hb4.size; (try simp at hq); omega))
      have hbel4 : Below w.heap.size w w4 := Bel.step hb4 hbel3
      go_wp2_with fail
      go_at_call 21; refine (toInt64S_c _ _ _ hm _ (Ints.step hbel4 hB)).mono ?_; rintro e w5 ⟨rfl, hB5, hb5⟩; obtain ⟨hc5, hf5, hz5⟩ := bel hb5; (try have hl5 : w.heap.size < w5.heap.size := by (have hq := hb5.size; (try simp at hq); omega)); (try have hm5 : w.heap.size + 1 < w5.heap.size := by (have hq := hb5.size; (try simp at hq); omega)); (try have hn5 : w.heap.size + 1 + 1 < w5.heap.size := by (have hq := hb5.size; (try simp at hq); omega)); (try have hp5 : b < w5.heap.size := by (have hq := hb5.size; (try simp at hq); omega)); (try have ho5 : b' < w5.heap.size := by (have hq := hb5.size; (try simp at hq); omega))
      have hbel5 : Below w.heap.size w w5 := Bel.step hb5 hbel4
      have hX5 := Blk.step hb5 hB4
      go_wp2_with fail
      go_at_call 43; refine (ComposeProjections_I _ _ _ _ _ _ hn hm _ hX5.ints hB5.ints).mono ?_; rintro e w6 ⟨v6, rfl, hO6, hb6⟩; obtain ⟨A6, kk6, rfl, hcc6, hcm6, hI6, hF6⟩ := hO6.form; clear hF6; obtain ⟨hc6, hf6, hz6⟩ := bel hb6; (try have hl6 : w.heap.size < w6.heap.size := by (have hq := hb6.size; (try simp at hq); omega)); (try have hm6 : w.heap.size + 1 < w6.heap.size := by (have hq := hb6.size; (try simp at hq); omega)); (try have hn6 : w.heap.size + 1 + 1 < w6.heap.size := by (have hq := hb6.size; (try simp at hq); omega)); (try have hp6 : b < w6.heap.size := by (have hq := hb6.size; (try simp at hq); omega)); (try have ho6 : b' < w6.heap.size := by (have hq := hb6.size; (try simp at hq); omega))
      have hbel6 : Below w.heap.size w w6 := Bel.step hb6 hbel5
      have s1 := hb1.size
      have s2 := hb2.size
      have s3 := hb3.size
      have s4 := hb4.size
      have s5 := hb5.size
      have s6 := hb6.size
      have hO3a := Own.step hb6 (Own.step hb5 (Own.step hb4 hO3))
      go_wp2_with fail
      go_at_call 23; refine (toB (eqInt64S_c _ _ _ _ _ _ (by omega) (by omega) _ hI6 hO3a.ints)).mono ?_; rintro e w7 ⟨rfl, hb7⟩; obtain ⟨hc7, hf7, hz7⟩ := bel hb7; (try simp only [World.size_drew, World.cell?_drew, World.frozen?_drew, World.heap_drewN, World.cell?_drewN, World.frozen?_drewN] at hc7 hf7 hz7); (try have hl7 : w.heap.size < w7.heap.size := by (have hq := hb7.size; (try simp at hq); omega)); (try have hm7 : w.heap.size + 1 < w7.heap.size := by (have hq := hb7.size; (try simp at hq); omega)); (try have hn7 : w.heap.size + 1 + 1 < w7.heap.size := by (have hq := hb7.size; (try simp at hq); omega)); (try have hp7 : b < w7.heap.size := by (have hq := hb7.size; (try simp at hq); omega)); (try have ho7 : b' < w7.heap.size := by (have hq := hb7.size; (try simp at hq); omega))
      rw [eqL_self]
      have hbel7 : Below w.heap.size w w7 := Bel.step hb7 hbel6
      go_wp2_with fail
      go_at_call 21; refine (toInt64S_c _ _ _ hn _ (Ints.step hbel7 hA)).mono ?_; rintro e w8 ⟨rfl, hB8, hb8⟩; obtain ⟨hc8, hf8, hz8⟩ := bel hb8; (try have hl8 : w.heap.size < w8.heap.size := by (have hq := hb8.size; (try simp at hq); omega)); (try have hm8 : w.heap.size + 1 < w8.heap.size := by (have hq := hb8.size; (try simp at hq); omega)); (try have hn8 : w.heap.size + 1 + 1 < w8.heap.size := by (have hq := hb8.size; (try simp at hq); omega)); (try have hp8 : b < w8.heap.size := by (have hq := hb8.size; (try simp at hq); omega)); (try have ho8 : b' < w8.heap.size := by (have hq := hb8.size; (try simp at hq); omega))
      have hbel8 : Below w.heap.size w w8 := Bel.step hb8 hbel7
      have hX8 := Blk.step hb8 (Blk.step hb7 (Blk.step hb6 hX5))
      go_wp2_with fail
      go_at_call 23; refine (toB (eqInt64S_c _ _ _ _ _ _ hn hn _ hX8.ints hB8.ints)).mono ?_; rintro e w9 ⟨rfl, hb9⟩; obtain ⟨hc9, hf9, hz9⟩ := bel hb9; (try simp only [World.size_drew, World.cell?_drew, World.frozen?_drew, World.heap_drewN, World.cell?_drewN, World.frozen?_drewN] at hc9 hf9 hz9); (try have hl9 : w.heap.size < w9.heap.size := by (have hq := hb9.size; (try simp at hq); omega)); (try have hm9 : w.heap.size + 1 < w9.heap.size := by (have hq := hb9.size; (try simp at hq); omega)); (try have hn9 : w.heap.size + 1 + 1 < w9.heap.size := by (have hq := hb9.size; (try simp at hq); omega)); (try have hp9 : b < w9.heap.size := by (have hq := hb9.size; (try simp at hq); omega)); (try have ho9 : b' < w9.heap.size := by (have hq := hb9.size; (try simp at hq); omega))
      rw [eqL_self]
      have hbel9 : Below w.heap.size w w9 := Bel.step hb9 hbel8
      go_wp2_with fail
      go_at_call 21; refine (toInt64S_c _ _ _ hm _ (Ints.step hbel9 hB)).mono ?_; rintro e w10 ⟨rfl, hB10, hb10⟩; obtain ⟨hc10, hf10, hz10⟩ := bel hb10; (try have hl10 : w.heap.size < w10.heap.size := by (have hq := hb10.size; (try simp at hq); omega)); (try have hm10 : w.heap.size + 1 < w10.heap.size := by (have hq := hb10.size; (try simp at hq); omega)); (try have hn100 : w.heap.size + 1 + 1 < w10.heap.size := by (have hq := hb10.size; (try simp at hq); omega)); (try have hp10 : b < w10.heap.size := by (have hq := hb10.size; (try simp at hq); omega)); (try have ho10 : b' < w10.heap.size := by (have hq := hb10.size; (try simp at hq); omega))
      have hbel10 : Below w.heap.size w w10 := Bel.step hb10 hbel9
      have hY10 := Blk.step hb10 (Blk.step hb9 (Blk.step hb8 (Blk.step hb7 (Blk.step hb6 hB5))))
      go_wp2_with fail
      go_at_call 23; refine (toB (eqInt64S_c _ _ _ _ _ _ hm hm _ hY10.ints hB10.ints)).mono ?_; rintro e w11 ⟨rfl, hb11⟩; obtain ⟨hc11, hf11, hz11⟩ := bel hb11; (try simp only [World.size_drew, World.cell?_drew, World.frozen?_drew, World.heap_drewN, World.cell?_drewN, World.frozen?_drewN] at hc11 hf11 hz11); (try have hl11 : w.heap.size < w11.heap.size := by (have hq := hb11.size; (try simp at hq); omega)); (try have hm11 : w.heap.size + 1 < w11.heap.size := by (have hq := hb11.size; (try simp at hq); omega)); (try have hn111 : w.heap.size + 1 + 1 < w11.heap.size := by (have hq := hb11.size; (try simp at hq); omega)); (try have hp11 : b < w11.heap.size := by (have hq := hb11.size; (try simp at hq); omega)); (try have ho11 : b' < w11.heap.size := by (have hq := hb11.size; (try simp at hq); omega))
      rw [eqL_self]
      have hbel11 : Below w.heap.size w w11 := Bel.step hb11 hbel10
      have s7 := hb7.size
      have s8 := hb8.size
      have s9 := hb9.size
      have s10 := hb10.size
      have s11 := hb11.size
      have hX11 := Blk.step hb11 (Blk.step hb10 (Blk.step hb9 hX8))
      have hY11 := Blk.step hb11 hY10
      have hO3b := Own.step hb11 (Own.step hb10 (Own.step hb9 (Own.step hb8 (Own.step hb7 hO3a))))
      have hO6b := Own.step hb11 (Own.step hb10 (Own.step hb9 (Own.step hb8 (Own.step hb7 hO6))))
      have hX := Blk.own hX11 (by unfold maxLen; omega) w.heap.size (by omega)
      have l4 := hB4.lt
      have l5 := hB5.lt
      go_wp2_with fail
      refine (markInt64S_c _ _ _ _ (by omega) (by omega) (by omega) _ hX).mono ?_; rintro e w12 ⟨rfl, hX12, hg12⟩
      have hbel12 : Below w.heap.size w w12 := Bel.grown hbel11 hg12 (fun k hk => (hX.lt k hk).1)
      have s12 := grown_size hg12
      have hY12 := Blk.grown hY11 hg12 (show some w4.heap.size ≠ some w3.heap.size from fun h => by injection h; omega)
      have hO3c := Own.kept hO3b hg12 (show _ ∨ _ ≠ some w3.heap.size from own_ne_lo hO3 (Nat.le_refl _))
      have hO6c := Own.kept hO6b hg12 (show _ ∨ _ ≠ some w3.heap.size from own_ne_hi hO6b (by omega))
      have hY := Blk.own hY12 (by unfold maxLen; omega) w.heap.size (by omega)
      go_wp2_with fail
      refine (markInt64S_c _ _ _ _ (by omega) (by omega) (by omega) _ hY).mono ?_; rintro e w13 ⟨rfl, hY13, hg13⟩
      have hbel13 : Below w.heap.size w w13 := Bel.grown hbel12 hg13 (fun k hk => (hY.lt k hk).1)
      have s13 := grown_size hg13
      have hO3d := Own.kept hO3c hg13 (show _ ∨ _ ≠ some w4.heap.size from own_ne_lo hO3 (by omega))
      have hO6d := Own.kept hO6c hg13 (show _ ∨ _ ≠ some w4.heap.size from own_ne_hi hO6c (by omega))
      go_wp2_with fail
      go_at_call 23; refine (toB (eqInt64S_c _ _ _ _ _ _ (by omega) (by omega) _ hO6d.ints hO3d.ints)).mono ?_; rintro e w14 ⟨rfl, hb14⟩; obtain ⟨hc14, hf14, hz14⟩ := bel hb14; (try simp only [World.size_drew, World.cell?_drew, World.frozen?_drew, World.heap_drewN, World.cell?_drewN, World.frozen?_drewN] at hc14 hf14 hz14); (try have hl14 : w.heap.size < w14.heap.size := by (have hq := hb14.size; (try simp at hq); omega)); (try have hm14 : w.heap.size + 1 < w14.heap.size := by (have hq := hb14.size; (try simp at hq); omega)); (try have hn144 : w.heap.size + 1 + 1 < w14.heap.size := by (have hq := hb14.size; (try simp at hq); omega)); (try have hp14 : b < w14.heap.size := by (have hq := hb14.size; (try simp at hq); omega)); (try have ho14 : b' < w14.heap.size := by (have hq := hb14.size; (try simp at hq); omega))
      rw [eqL_self]
      have hO6e := Own.step hb14 hO6d
      go_wp2_with fail
      refine (markInt64S_c _ _ _ _ (by omega) (by omega) (by omega) _ hO6e).mono ?_; rintro e w15 ⟨rfl, hM15, hg15⟩
      have hbel14 : Below w.heap.size w w14 := Bel.step hb14 hbel13
      have hbel15 : Below w.heap.size w w15 := Bel.grown hbel14 hg15 (fun k hk => by have := (hO6e.lt k hk).1; omega)
      have s14 := hb14.size
      have s15 := grown_size hg15
      have hO3e := Own.kept (Own.step hb14 hO3d) hg15 (own_ne_own hO3 hO6 (by omega))
      go_wp2_with fail
      refine (heldInt64S_c _ _ _ _ (by omega) (by omega) (by omega) _ hM15).mono ?_; rintro e w' ⟨rfl, rfl⟩
      go_wp2_with fail
      go_at_call 21; refine (toInt64S_c _ _ _ hn _ (Ints.step hbel15 hA)).mono ?_; rintro e w16 ⟨rfl, hB16, hb16⟩; obtain ⟨hc16, hf16, hz16⟩ := bel hb16; (try have hl16 : w.heap.size < w16.heap.size := by (have hq := hb16.size; (try simp at hq); omega)); (try have hm16 : w.heap.size + 1 < w16.heap.size := by (have hq := hb16.size; (try simp at hq); omega)); (try have hn166 : w.heap.size + 1 + 1 < w16.heap.size := by (have hq := hb16.size; (try simp at hq); omega)); (try have hp16 : b < w16.heap.size := by (have hq := hb16.size; (try simp at hq); omega)); (try have ho16 : b' < w16.heap.size := by (have hq := hb16.size; (try simp at hq); omega))
      have hbel16 : Below w.heap.size w w16 := Bel.step hb16 hbel15
      go_wp2_with fail
      go_at_call 21; refine (toInt64S_c _ _ _ hm _ (Ints.step hbel16 hB)).mono ?_; rintro e w17 ⟨rfl, hB17, hb17⟩; obtain ⟨hc17, hf17, hz17⟩ := bel hb17; (try have hl17 : w.heap.size < w17.heap.size := by (have hq := hb17.size; (try simp at hq); omega)); (try have hm17 : w.heap.size + 1 < w17.heap.size := by (have hq := hb17.size; (try simp at hq); omega)); (try have hn177 : w.heap.size + 1 + 1 < w17.heap.size := by (have hq := hb17.size; (try simp at hq); omega)); (try have hp17 : b < w17.heap.size := by (have hq := hb17.size; (try simp at hq); omega)); (try have ho17 : b' < w17.heap.size := by (have hq := hb17.size; (try simp at hq); omega))
      have hbel17 : Below w.heap.size w w17 := Bel.step hb17 hbel16
      go_wp2_with fail
      go_at_call 43; refine (ComposeProjections_I _ _ _ _ _ _ hn hm _ (Blk.step hb17 hB16).ints hB17.ints).mono ?_; rintro e w18 ⟨v18, rfl, hO18, hb18⟩; obtain ⟨A18, kk18, rfl, hcc18, hcm18, hI18, hF18⟩ := hO18.form; clear hF18; obtain ⟨hc18, hf18, hz18⟩ := bel hb18; (try have hl18 : w.heap.size < w18.heap.size := by (have hq := hb18.size; (try simp at hq); omega)); (try have hm18 : w.heap.size + 1 < w18.heap.size := by (have hq := hb18.size; (try simp at hq); omega)); (try have hn188 : w.heap.size + 1 + 1 < w18.heap.size := by (have hq := hb18.size; (try simp at hq); omega)); (try have hp18 : b < w18.heap.size := by (have hq := hb18.size; (try simp at hq); omega)); (try have ho18 : b' < w18.heap.size := by (have hq := hb18.size; (try simp at hq); omega))
      have hbel18 : Below w.heap.size w w18 := Bel.step hb18 hbel17
      have hO3f := Own.step hb18 (Own.step hb17 (Own.step hb16 hO3e))
      go_wp2_with fail
      go_at_call 23; refine (toB (eqInt64S_c _ _ _ _ _ _ (by omega) (by omega) _ hI18 hO3f.ints)).mono ?_; rintro e w19 ⟨rfl, hb19⟩; obtain ⟨hc19, hf19, hz19⟩ := bel hb19; (try simp only [World.size_drew, World.cell?_drew, World.frozen?_drew, World.heap_drewN, World.cell?_drewN, World.frozen?_drewN] at hc19 hf19 hz19); (try have hl19 : w.heap.size < w19.heap.size := by (have hq := hb19.size; (try simp at hq); omega)); (try have hm19 : w.heap.size + 1 < w19.heap.size := by (have hq := hb19.size; (try simp at hq); omega)); (try have hn199 : w.heap.size + 1 + 1 < w19.heap.size := by (have hq := hb19.size; (try simp at hq); omega)); (try have hp19 : b < w19.heap.size := by (have hq := hb19.size; (try simp at hq); omega)); (try have ho19 : b' < w19.heap.size := by (have hq := hb19.size; (try simp at hq); omega))
      rw [eqL_self]
      have hM19 := Own.step hb19 (Own.step hb18 (Own.step hb17 (Own.step hb16 hM15)))
      go_wp2_with fail
      refine (heldInt64S_c _ _ _ _ (by omega) (by omega) (by omega) _ hM19).mono ?_; rintro e w' ⟨rfl, rfl⟩
      go_wp2
      go_ret
      exact ⟨rfl, Bel.step hb19 hbel18⟩
    · go_enter Try.func12, Try.ntmps12
      go_wp2
      go_ret
      exact ⟨rfl, by repeat (with_reducible first | exact Below.refl _ _ | assumption | refine Bel.alloc ?_ _ | refine Bel.step (by assumption) ?_ | refine Below.drew ?_ | refine Bel.drewN ?_ _ | refine Below.setCell ?_ (by first | exact Nat.le_refl _ | omega | (simp; done) | (simp; omega)) _)⟩
  · go_enter Try.func12, Try.ntmps12
    go_wp2
    go_ret
    exact ⟨rfl, by repeat (with_reducible first | exact Below.refl _ _ | assumption | refine Bel.alloc ?_ _ | refine Bel.step (by assumption) ?_ | refine Below.drew ?_ | refine Bel.drewN ?_ _ | refine Below.setCell ?_ (by first | exact Nat.le_refl _ | omega | (simp; done) | (simp; omega)) _)⟩
theorem FnExactFixedByAll_w (w : World) (A : Option Addr) (c : Nat) (m : List Int) (hl : m.length ≤ 9223372036854775807) (hA : Ints w A m) :
    Calls Try.prog 8 #[.slice A m.length c] w fun e w' => e = .returned (.bool true) ∧ Below w.heap.size w w' := by
  by_cases hn : m.length ≤ 1048576
  · go_enter Try.func8, Try.ntmps8
    go_wp2_with fail
    go_at_call 21; refine (toInt64S_c _ _ _ hn _ hA).mono ?_; rintro e w1 ⟨rfl, hB1, hb1⟩; obtain ⟨hc1, hf1, hz1⟩ := bel hb1; (try have hl1 : w.heap.size < w1.heap.size := by (have hq := hb1.size; (try simp at hq); omega)); (try have hm1 : w.heap.size + 1 < w1.heap.size := by (have hq := hb1.size; (try simp at hq); omega)); (try have hn1 : w.heap.size + 1 + 1 < w1.heap.size := by (have hq := hb1.size; (try simp at hq); omega)); (try have hp1 : b < w1.heap.size := by (have hq := hb1.size; (try simp at hq); omega)); (try have ho1 : b' < w1.heap.size := by (have hq := hb1.size; (try simp at hq); omega))
    go_wp2_with fail
    go_at_call 29; refine (FixedByAll_S _ _ _ hn _ hB1.ints).mono ?_; rintro e w2 ⟨rfl, hb2⟩; obtain ⟨hc2, hf2, hz2⟩ := bel hb2; (try simp only [World.size_drew, World.cell?_drew, World.frozen?_drew, World.heap_drewN, World.cell?_drewN, World.frozen?_drewN] at hc2 hf2 hz2); (try have hl2 : w.heap.size < w2.heap.size := by (have hq := hb2.size; (try simp at hq); omega)); (try have hm2 : w.heap.size + 1 < w2.heap.size := by (have hq := hb2.size; (try simp at hq); omega)); (try have hn2 : w.heap.size + 1 + 1 < w2.heap.size := by (have hq := hb2.size; (try simp at hq); omega)); (try have hp2 : b < w2.heap.size := by (have hq := hb2.size; (try simp at hq); omega)); (try have ho2 : b' < w2.heap.size := by (have hq := hb2.size; (try simp at hq); omega))
    go_wp2_with fail
    go_at_call 21; refine (toInt64S_c _ _ _ hn _ (Ints.step hb2 (Ints.step hb1 hA))).mono ?_; rintro e w3 ⟨rfl, hB3, hb3⟩; obtain ⟨hc3, hf3, hz3⟩ := bel hb3; (try have hl3 : w.heap.size < w3.heap.size := by (have hq := hb3.size; (try simp at hq); omega)); (try have hm3 : w.heap.size + 1 < w3.heap.size := by (have hq := hb3.size; (try simp at hq); omega)); (try have hn3 : w.heap.size + 1 + 1 < w3.heap.size := by (have hq := hb3.size; (try simp at hq); omega)); (try have hp3 : b < w3.heap.size := by (have hq := hb3.size; (try simp at hq); omega)); (try have ho3 : b' < w3.heap.size := by (have hq := hb3.size; (try simp at hq); omega))
    go_wp2_with fail
    go_at_call 30; refine (FixedByAll_I _ _ _ hn _ hB3.ints).mono ?_; rintro e w4 ⟨rfl, hb4⟩; obtain ⟨hc4, hf4, hz4⟩ := bel hb4; (try simp only [World.size_drew, World.cell?_drew, World.frozen?_drew, World.heap_drewN, World.cell?_drewN, World.frozen?_drewN] at hc4 hf4 hz4); (try have hl4 : w.heap.size < w4.heap.size := by (have hq := hb4.size; (try simp at hq); omega)); (try have hm4 : w.heap.size + 1 < w4.heap.size := by (have hq := hb4.size; (try simp at hq); omega)); (try have hn4 : w.heap.size + 1 + 1 < w4.heap.size := by (have hq := hb4.size; (try simp at hq); omega)); (try have hp4 : b < w4.heap.size := by (have hq := hb4.size; (try simp at hq); omega)); (try have ho4 : b' < w4.heap.size := by (have hq := hb4.size; (try simp at hq); omega))
    have hB4 := Blk.step hb4 hB3
    go_wp2_with fail
    go_at_call 21; refine (toInt64S_c _ _ _ hn _ (Ints.step hb4 (Ints.step hb3 (Ints.step hb2 (Ints.step hb1 hA))))).mono ?_; rintro e w5 ⟨rfl, hB5, hb5⟩; obtain ⟨hc5, hf5, hz5⟩ := bel hb5; (try have hl5 : w.heap.size < w5.heap.size := by (have hq := hb5.size; (try simp at hq); omega)); (try have hm5 : w.heap.size + 1 < w5.heap.size := by (have hq := hb5.size; (try simp at hq); omega)); (try have hn5 : w.heap.size + 1 + 1 < w5.heap.size := by (have hq := hb5.size; (try simp at hq); omega)); (try have hp5 : b < w5.heap.size := by (have hq := hb5.size; (try simp at hq); omega)); (try have ho5 : b' < w5.heap.size := by (have hq := hb5.size; (try simp at hq); omega))
    go_wp2_with fail
    go_at_call 23; refine (toB (eqInt64S_c _ _ _ _ _ _ hn hn _ (Blk.step hb5 hB4).ints hB5.ints)).mono ?_; rintro e w6 ⟨rfl, hb6⟩; obtain ⟨hc6, hf6, hz6⟩ := bel hb6; (try simp only [World.size_drew, World.cell?_drew, World.frozen?_drew, World.heap_drewN, World.cell?_drewN, World.frozen?_drewN] at hc6 hf6 hz6); (try have hl6 : w.heap.size < w6.heap.size := by (have hq := hb6.size; (try simp at hq); omega)); (try have hm6 : w.heap.size + 1 < w6.heap.size := by (have hq := hb6.size; (try simp at hq); omega)); (try have hn6 : w.heap.size + 1 + 1 < w6.heap.size := by (have hq := hb6.size; (try simp at hq); omega)); (try have hp6 : b < w6.heap.size := by (have hq := hb6.size; (try simp at hq); omega)); (try have ho6 : b' < w6.heap.size := by (have hq := hb6.size; (try simp at hq); omega))
    rw [eqL_self]
    go_wp2
    go_ret
    exact ⟨rfl, by repeat (with_reducible first | exact Below.refl _ _ | assumption | refine Bel.alloc ?_ _ | refine Bel.step (by assumption) ?_ | refine Below.drew ?_ | refine Bel.drewN ?_ _ | refine Below.setCell ?_ (by first | exact Nat.le_refl _ | omega | (simp; done) | (simp; omega)) _)⟩
  · go_enter Try.func8, Try.ntmps8
    go_wp2
    go_ret
    exact ⟨rfl, by repeat (with_reducible first | exact Below.refl _ _ | assumption | refine Bel.alloc ?_ _ | refine Bel.step (by assumption) ?_ | refine Below.drew ?_ | refine Bel.drewN ?_ _ | refine Below.setCell ?_ (by first | exact Nat.le_refl _ | omega | (simp; done) | (simp; omega)) _)⟩
end Go.Proofs.Yteofdedbignhaaa
