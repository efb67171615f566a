/- The statements of chapter 25, walked. No conditions. -/
import Derived.Test.YteofdedbignhaaaProg
import Derived.Test.YteofdedbignhaaaBase
import Derived.Test.YteofdedbignhaaaL01
import Derived.Test.YteofdedbignhaaaCp
import Derived.Test.YteofdedbignhaaaL25
import Derived.Test.YteofdedbignhaaaL25b
import Derived.Test.YteofdedbignhaaaL25c
import Derived.WalkKit
import Derived.WalkSpells
import Derived.WalkLawsBesides
import Derived.Lib.Hide
namespace Go.Proofs.Yteofdedbignhaaa
open Go.RowKit
set_option linter.unusedVariables false
theorem FnExactIsProjection_w (w : World) (A : Option Addr) (c : Nat) (m : List Int) (hl : m.length ≤ 9223372036854775807) (hA : Ints w A m) :
    Calls Try.prog 5 #[.slice A m.length c] w fun e w' => e = .returned (.bool true) ∧ Below w.heap.size w w' := by
  by_cases hn : m.length ≤ 1048576
  · go_enter Try.func5, Try.ntmps5
    go_wp2_with fail
    go_at_call 21; refine (toInt64S_c _ _ _ hn _ hA).mono ?_; rintro e w1 ⟨rfl, hB1, hb1⟩; obtain ⟨hc1, hf1, hz1⟩ := bel hb1; (try have hl1 : w.heap.size < w1.heap.size := by (have hq := hb1.size; (try simp at hq); omega)); (try have hm1 : w.heap.size + 1 < w1.heap.size := by (have hq := hb1.size; (try simp at hq); omega)); (try have hn1 : w.heap.size + 1 + 1 < w1.heap.size := by (have hq := hb1.size; (try simp at hq); omega)); (try have hp1 : b < w1.heap.size := by (have hq := hb1.size; (try simp at hq); omega)); (try have ho1 : b' < w1.heap.size := by (have hq := hb1.size; (try simp at hq); omega))
    go_wp2_with fail
    go_at_call 20; refine (IsProjection_S _ _ _ hn _ hB1.ints).mono ?_; rintro e w2 ⟨rfl, hb2⟩; obtain ⟨hc2, hf2, hz2⟩ := bel hb2; (try simp only [World.size_drew, World.cell?_drew, World.frozen?_drew, World.heap_drewN, World.cell?_drewN, World.frozen?_drewN] at hc2 hf2 hz2); (try have hl2 : w.heap.size < w2.heap.size := by (have hq := hb2.size; (try simp at hq); omega)); (try have hm2 : w.heap.size + 1 < w2.heap.size := by (have hq := hb2.size; (try simp at hq); omega)); (try have hn2 : w.heap.size + 1 + 1 < w2.heap.size := by (have hq := hb2.size; (try simp at hq); omega)); (try have hp2 : b < w2.heap.size := by (have hq := hb2.size; (try simp at hq); omega)); (try have ho2 : b' < w2.heap.size := by (have hq := hb2.size; (try simp at hq); omega))
    go_wp2_with fail
    go_at_call 21; refine (toInt64S_c _ _ _ hn _ (Ints.step hb2 (Ints.step hb1 hA))).mono ?_; rintro e w3 ⟨rfl, hB3, hb3⟩; obtain ⟨hc3, hf3, hz3⟩ := bel hb3; (try have hl3 : w.heap.size < w3.heap.size := by (have hq := hb3.size; (try simp at hq); omega)); (try have hm3 : w.heap.size + 1 < w3.heap.size := by (have hq := hb3.size; (try simp at hq); omega)); (try have hn3 : w.heap.size + 1 + 1 < w3.heap.size := by (have hq := hb3.size; (try simp at hq); omega)); (try have hp3 : b < w3.heap.size := by (have hq := hb3.size; (try simp at hq); omega)); (try have ho3 : b' < w3.heap.size := by (have hq := hb3.size; (try simp at hq); omega))
    go_wp2_with fail
    go_at_call 22; refine (IsProjection_I _ _ _ hn _ hB3.ints).mono ?_; rintro e w4 ⟨rfl, hb4⟩; obtain ⟨hc4, hf4, hz4⟩ := bel hb4; (try simp only [World.size_drew, World.cell?_drew, World.frozen?_drew, World.heap_drewN, World.cell?_drewN, World.frozen?_drewN] at hc4 hf4 hz4); (try have hl4 : w.heap.size < w4.heap.size := by (have hq := hb4.size; (try simp at hq); omega)); (try have hm4 : w.heap.size + 1 < w4.heap.size := by (have hq := hb4.size; (try simp at hq); omega)); (try have hn4 : w.heap.size + 1 + 1 < w4.heap.size := by (have hq := hb4.size; (try simp at hq); omega)); (try have hp4 : b < w4.heap.size := by (have hq := hb4.size; (try simp at hq); omega)); (try have ho4 : b' < w4.heap.size := by (have hq := hb4.size; (try simp at hq); omega))
    have hB4 := Blk.step hb4 hB3
    go_wp2_with fail
    go_at_call 21; refine (toInt64S_c _ _ _ hn _ (Ints.step hb4 (Ints.step hb3 (Ints.step hb2 (Ints.step hb1 hA))))).mono ?_; rintro e w5 ⟨rfl, hB5, hb5⟩; obtain ⟨hc5, hf5, hz5⟩ := bel hb5; (try have hl5 : w.heap.size < w5.heap.size := by (have hq := hb5.size; (try simp at hq); omega)); (try have hm5 : w.heap.size + 1 < w5.heap.size := by (have hq := hb5.size; (try simp at hq); omega)); (try have hn5 : w.heap.size + 1 + 1 < w5.heap.size := by (have hq := hb5.size; (try simp at hq); omega)); (try have hp5 : b < w5.heap.size := by (have hq := hb5.size; (try simp at hq); omega)); (try have ho5 : b' < w5.heap.size := by (have hq := hb5.size; (try simp at hq); omega))
    go_wp2_with fail
    go_at_call 23; refine (toB (eqInt64S_c _ _ _ _ _ _ hn hn _ (Blk.step hb5 hB4).ints hB5.ints)).mono ?_; rintro e w6 ⟨rfl, hb6⟩; obtain ⟨hc6, hf6, hz6⟩ := bel hb6; (try simp only [World.size_drew, World.cell?_drew, World.frozen?_drew, World.heap_drewN, World.cell?_drewN, World.frozen?_drewN] at hc6 hf6 hz6); (try have hl6 : w.heap.size < w6.heap.size := by (have hq := hb6.size; (try simp at hq); omega)); (try have hm6 : w.heap.size + 1 < w6.heap.size := by (have hq := hb6.size; (try simp at hq); omega)); (try have hn6 : w.heap.size + 1 + 1 < w6.heap.size := by (have hq := hb6.size; (try simp at hq); omega)); (try have hp6 : b < w6.heap.size := by (have hq := hb6.size; (try simp at hq); omega)); (try have ho6 : b' < w6.heap.size := by (have hq := hb6.size; (try simp at hq); omega))
    rw [eqL_self]
    go_wp2
    go_ret
    exact ⟨rfl, by repeat (with_reducible first | exact Below.refl _ _ | assumption | refine Bel.alloc ?_ _ | refine Bel.step (by assumption) ?_ | refine Below.drew ?_ | refine Bel.drewN ?_ _ | refine Below.setCell ?_ (by first | exact Nat.le_refl _ | omega | (simp; done) | (simp; omega)) _)⟩
  · go_enter Try.func5, Try.ntmps5
    go_wp2
    go_ret
    exact ⟨rfl, by repeat (with_reducible first | exact Below.refl _ _ | assumption | refine Bel.alloc ?_ _ | refine Bel.step (by assumption) ?_ | refine Below.drew ?_ | refine Bel.drewN ?_ _ | refine Below.setCell ?_ (by first | exact Nat.le_refl _ | omega | (simp; done) | (simp; omega)) _)⟩
theorem FnExactMakeRational_w (w : World) (x : Int) (g0 : (Lit.int .i64 x).wf = true) (y : Int) (g1 : (Lit.int .i64 y).wf = true) (z : Int) (g2 : (Lit.int .i64 z).wf = true) :
    Calls Try.prog 6 #[.int .i64 x, .int .i64 y, .int .i64 z] w fun e w' => e = .returned (.bool true) ∧ Below w.heap.size w w' := by
  have hE := eqR_self
  go_enter Try.func6, Try.ntmps6
  go_wp2_with (first | (go_at_call 24; refine (MakeRational_S _ _ _ _).mono ?_; rintro e w1 ⟨rfl, hb1⟩; obtain ⟨hc1, hf1, hz1⟩ := bel hb1; (try simp only [World.size_drew, World.cell?_drew, World.frozen?_drew, World.heap_drewN, World.cell?_drewN, World.frozen?_drewN] at hc1 hf1 hz1); (try have hl1 : w.heap.size < w1.heap.size := by (have hq := hb1.size; (try simp at hq); omega)); (try have hm1 : w.heap.size + 1 < w1.heap.size := by (have hq := hb1.size; (try simp at hq); omega)); (try have hn1 : w.heap.size + 1 + 1 < w1.heap.size := by (have hq := hb1.size; (try simp at hq); omega)); (try have hp1 : b < w1.heap.size := by (have hq := hb1.size; (try simp at hq); omega)); (try have ho1 : b' < w1.heap.size := by (have hq := hb1.size; (try simp at hq); omega))) | (go_at_call 25; refine (MakeRational_I _ _ _ _).mono ?_; rintro e w1 ⟨rfl, hb1⟩; obtain ⟨hc1, hf1, hz1⟩ := bel hb1; (try simp only [World.size_drew, World.cell?_drew, World.frozen?_drew, World.heap_drewN, World.cell?_drewN, World.frozen?_drewN] at hc1 hf1 hz1); (try have hl1 : w.heap.size < w1.heap.size := by (have hq := hb1.size; (try simp at hq); omega)); (try have hm1 : w.heap.size + 1 < w1.heap.size := by (have hq := hb1.size; (try simp at hq); omega)); (try have hn1 : w.heap.size + 1 + 1 < w1.heap.size := by (have hq := hb1.size; (try simp at hq); omega)); (try have hp1 : b < w1.heap.size := by (have hq := hb1.size; (try simp at hq); omega)); (try have ho1 : b' < w1.heap.size := by (have hq := hb1.size; (try simp at hq); omega))) | (go_at_call 26; refine (eqRational_c _ _ _ _ _ _ _).mono ?_; rintro e w1 ⟨rfl, hb1⟩; obtain ⟨hc1, hf1, hz1⟩ := bel hb1; (try simp only [World.size_drew, World.cell?_drew, World.frozen?_drew, World.heap_drewN, World.cell?_drewN, World.frozen?_drewN] at hc1 hf1 hz1); (try have hl1 : w.heap.size < w1.heap.size := by (have hq := hb1.size; (try simp at hq); omega)); (try have hm1 : w.heap.size + 1 < w1.heap.size := by (have hq := hb1.size; (try simp at hq); omega)); (try have hn1 : w.heap.size + 1 + 1 < w1.heap.size := by (have hq := hb1.size; (try simp at hq); omega)); (try have hp1 : b < w1.heap.size := by (have hq := hb1.size; (try simp at hq); omega)); (try have ho1 : b' < w1.heap.size := by (have hq := hb1.size; (try simp at hq); omega))))
  go_ret
  exact ⟨rfl, by repeat (with_reducible first | exact Below.refl _ _ | assumption | refine Bel.alloc ?_ _ | refine Bel.step (by assumption) ?_ | refine Below.drew ?_ | refine Bel.drewN ?_ _ | refine Below.setCell ?_ (by first | exact Nat.le_refl _ | omega | (simp; done) | (simp; omega)) _)⟩
theorem FnExactInverseProjection_w (w : World) (A : Option Addr) (c : Nat) (m : List Int) (hl : m.length ≤ 9223372036854775807) (hA : Ints w A m) :
    Calls Try.prog 13 #[.slice A m.length c] w fun e w' => e = .returned (.bool true) ∧ Below w.heap.size w w' := by
  by_cases hn : m.length ≤ 1048576
  · have hL := invR_len m
    have hq0 : 0 ≤ ((invR m).length : Int) := by omega
    go_enter Try.func13, Try.ntmps13
    go_wp2_with fail
    go_at_call 21; refine (toInt64S_c _ _ _ hn _ hA).mono ?_; rintro e w1 ⟨rfl, hB1, hb1⟩; obtain ⟨hc1, hf1, hz1⟩ := bel hb1; (try have hl1 : w.heap.size < w1.heap.size := by (have hq := hb1.size; (try simp at hq); omega)); (try have hm1 : w.heap.size + 1 < w1.heap.size := by (have hq := hb1.size; (try simp at hq); omega)); (try have hn1 : w.heap.size + 1 + 1 < w1.heap.size := by (have hq := hb1.size; (try simp at hq); omega)); (try have hp1 : b < w1.heap.size := by (have hq := hb1.size; (try simp at hq); omega)); (try have ho1 : b' < w1.heap.size := by (have hq := hb1.size; (try simp at hq); omega))
    go_wp2_with fail
    go_at_call 46; refine (InverseProjection_S _ _ _ hn _ hB1.ints).mono ?_; rintro e w2 ⟨v2, rfl, hO2, hb2⟩; obtain ⟨A2, kk2, rfl, hcc2, hcm2, hI2, hF2⟩ := hO2.form; clear hF2; obtain ⟨hc2, hf2, hz2⟩ := bel hb2; (try have hl2 : w.heap.size < w2.heap.size := by (have hq := hb2.size; (try simp at hq); omega)); (try have hm2 : w.heap.size + 1 < w2.heap.size := by (have hq := hb2.size; (try simp at hq); omega)); (try have hn2 : w.heap.size + 1 + 1 < w2.heap.size := by (have hq := hb2.size; (try simp at hq); omega)); (try have hp2 : b < w2.heap.size := by (have hq := hb2.size; (try simp at hq); omega)); (try have ho2 : b' < w2.heap.size := by (have hq := hb2.size; (try simp at hq); omega))
    go_wp2_with fail
    go_at_call 21; refine (toInt64S_c _ _ _ hn _ (Ints.step hb2 (Ints.step hb1 hA))).mono ?_; rintro e w3 ⟨rfl, hB3, hb3⟩; obtain ⟨hc3, hf3, hz3⟩ := bel hb3; (try have hl3 : w.heap.size < w3.heap.size := by (have hq := hb3.size; (try simp at hq); omega)); (try have hm3 : w.heap.size + 1 < w3.heap.size := by (have hq := hb3.size; (try simp at hq); omega)); (try have hn3 : w.heap.size + 1 + 1 < w3.heap.size := by (have hq := hb3.size; (try simp at hq); omega)); (try have hp3 : b < w3.heap.size := by (have hq := hb3.size; (try simp at hq); omega)); (try have ho3 : b' < w3.heap.size := by (have hq := hb3.size; (try simp at hq); omega))
    go_wp2_with fail
    go_at_call 47; refine (InverseProjection_I _ _ _ hn _ hB3.ints).mono ?_; rintro e w4 ⟨v4, rfl, hO4, hb4⟩; obtain ⟨A4, kk4, rfl, hcc4, hcm4, hI4, hF4⟩ := hO4.form; clear hF4; obtain ⟨hc4, hf4, hz4⟩ := bel hb4; (try have hl4 : w.heap.size < w4.heap.size := by (have hq := hb4.size; (try simp at hq); omega)); (try have hm4 : w.heap.size + 1 < w4.heap.size := by (have hq := hb4.size; (try simp at hq); omega)); (try have hn4 : w.heap.size + 1 + 1 < w4.heap.size := by (have hq := hb4.size; (try simp at hq); omega)); (try have hp4 : b < w4.heap.size := by (have hq := hb4.size; (try simp at hq); omega)); (try have ho4 : b' < w4.heap.size := by (have hq := hb4.size; (try simp at hq); omega))
    have s1 := hb1.size
    have s2 := hb2.size
    have s3 := hb3.size
    have s4 := hb4.size
    have hO2a := Own.step hb4 (Own.step hb3 hO2)
    go_wp2_with fail
    go_at_call 23; refine (toB (eqInt64S_c _ _ _ _ _ _ (by omega) (by omega) _ hI4 hO2a.ints)).mono ?_; rintro e w5 ⟨rfl, hb5⟩; obtain ⟨hc5, hf5, hz5⟩ := bel hb5; (try simp only [World.size_drew, World.cell?_drew, World.frozen?_drew, World.heap_drewN, World.cell?_drewN, World.frozen?_drewN] at hc5 hf5 hz5); (try have hl5 : w.heap.size < w5.heap.size := by (have hq := hb5.size; (try simp at hq); omega)); (try have hm5 : w.heap.size + 1 < w5.heap.size := by (have hq := hb5.size; (try simp at hq); omega)); (try have hn5 : w.heap.size + 1 + 1 < w5.heap.size := by (have hq := hb5.size; (try simp at hq); omega)); (try have hp5 : b < w5.heap.size := by (have hq := hb5.size; (try simp at hq); omega)); (try have ho5 : b' < w5.heap.size := by (have hq := hb5.size; (try simp at hq); omega))
    rw [eqL_self]
    have hbel5 : Below w.heap.size w w5 := by repeat (with_reducible first | exact Below.refl _ _ | assumption | refine Bel.alloc ?_ _ | refine Bel.step (by assumption) ?_ | refine Below.drew ?_ | refine Bel.drewN ?_ _ | refine Below.setCell ?_ (by first | exact Nat.le_refl _ | omega | (simp; done) | (simp; omega)) _)
    go_wp2_with fail
    go_at_call 21; refine (toInt64S_c _ _ _ hn _ (Ints.step hbel5 hA)).mono ?_; rintro e w6 ⟨rfl, hB6, hb6⟩; obtain ⟨hc6, hf6, hz6⟩ := bel hb6; (try have hl6 : w.heap.size < w6.heap.size := by (have hq := hb6.size; (try simp at hq); omega)); (try have hm6 : w.heap.size + 1 < w6.heap.size := by (have hq := hb6.size; (try simp at hq); omega)); (try have hn6 : w.heap.size + 1 + 1 < w6.heap.size := by (have hq := hb6.size; (try simp at hq); omega)); (try have hp6 : b < w6.heap.size := by (have hq := hb6.size; (try simp at hq); omega)); (try have ho6 : b' < w6.heap.size := by (have hq := hb6.size; (try simp at hq); omega))
    have hB3b := Blk.step hb6 (Blk.step hb5 (Blk.step hb4 hB3))
    go_wp2_with fail
    go_at_call 23; refine (toB (eqInt64S_c _ _ _ _ _ _ hn hn _ hB3b.ints hB6.ints)).mono ?_; rintro e w7 ⟨rfl, hb7⟩; obtain ⟨hc7, hf7, hz7⟩ := bel hb7; (try simp only [World.size_drew, World.cell?_drew, World.frozen?_drew, World.heap_drewN, World.cell?_drewN, World.frozen?_drewN] at hc7 hf7 hz7); (try have hl7 : w.heap.size < w7.heap.size := by (have hq := hb7.size; (try simp at hq); omega)); (try have hm7 : w.heap.size + 1 < w7.heap.size := by (have hq := hb7.size; (try simp at hq); omega)); (try have hn7 : w.heap.size + 1 + 1 < w7.heap.size := by (have hq := hb7.size; (try simp at hq); omega)); (try have hp7 : b < w7.heap.size := by (have hq := hb7.size; (try simp at hq); omega)); (try have ho7 : b' < w7.heap.size := by (have hq := hb7.size; (try simp at hq); omega))
    rw [eqL_self]
    have hX := Blk.own (Blk.step hb7 hB3b) (by unfold maxLen; omega) w.heap.size (by omega)
    have s5 := hb5.size
    have s6 := hb6.size
    have s7 := hb7.size
    have hbel7 : Below w.heap.size w w7 := by repeat (with_reducible first | exact Below.refl _ _ | assumption | refine Bel.alloc ?_ _ | refine Bel.step (by assumption) ?_ | refine Below.drew ?_ | refine Bel.drewN ?_ _ | refine Below.setCell ?_ (by first | exact Nat.le_refl _ | omega | (simp; done) | (simp; omega)) _)
    have hO2b := Own.step hb7 (Own.step hb6 (Own.step hb5 hO2a))
    have hO4b := Own.step hb7 (Own.step hb6 (Own.step hb5 hO4))
    go_wp2_with fail
    refine (markInt64S_c _ _ _ _ (by omega) (by omega) (by omega) _ hX).mono ?_; rintro e w8 ⟨rfl, hX8, hg8⟩
    have hbel8 : Below w.heap.size w w8 := Bel.grown hbel7 hg8 (fun k hk => (hX.lt k hk).1)
    have s8 := grown_size hg8
    have hO2c := Own.kept hO2b hg8 (show _ ∨ _ ≠ some w2.heap.size from own_ne_lo hO2 (Nat.le_refl _))
    have hO4c := Own.kept hO4b hg8 (show _ ∨ _ ≠ some w2.heap.size from own_ne_hi hO4b (by have := hB3.lt; omega))
    go_wp2_with fail
    go_at_call 23; refine (toB (eqInt64S_c _ _ _ _ _ _ (by omega) (by omega) _ hO4c.ints hO2c.ints)).mono ?_; rintro e w9 ⟨rfl, hb9⟩; obtain ⟨hc9, hf9, hz9⟩ := bel hb9; (try simp only [World.size_drew, World.cell?_drew, World.frozen?_drew, World.heap_drewN, World.cell?_drewN, World.frozen?_drewN] at hc9 hf9 hz9); (try have hl9 : w.heap.size < w9.heap.size := by (have hq := hb9.size; (try simp at hq); omega)); (try have hm9 : w.heap.size + 1 < w9.heap.size := by (have hq := hb9.size; (try simp at hq); omega)); (try have hn9 : w.heap.size + 1 + 1 < w9.heap.size := by (have hq := hb9.size; (try simp at hq); omega)); (try have hp9 : b < w9.heap.size := by (have hq := hb9.size; (try simp at hq); omega)); (try have ho9 : b' < w9.heap.size := by (have hq := hb9.size; (try simp at hq); omega))
    rw [eqL_self]
    have hO4d := Own.step hb9 hO4c
    go_wp2_with fail
    refine (markInt64S_c _ _ _ _ (by omega) (by omega) (by omega) _ hO4d).mono ?_; rintro e w10 ⟨rfl, hM10, hg10⟩
    have hbel9 : Below w.heap.size w w9 := Bel.step hb9 hbel8
    have hbel10 : Below w.heap.size w w10 := Bel.grown hbel9 hg10 (fun k hk => by have := (hO4d.lt k hk).1; omega)
    have s9 := hb9.size
    have s10 := grown_size hg10
    have hO2d := Own.kept (Own.step hb9 hO2c) hg10 (own_ne_own hO2 hO4 (by omega))
    go_wp2_with fail
    refine (heldInt64S_c _ _ _ _ (by omega) (by omega) (by omega) _ hM10).mono ?_; rintro e w' ⟨rfl, rfl⟩
    go_wp2_with fail
    go_at_call 21; refine (toInt64S_c _ _ _ hn _ (Ints.step hbel10 hA)).mono ?_; rintro e w11 ⟨rfl, hB11, hb11⟩; obtain ⟨hc11, hf11, hz11⟩ := bel hb11; (try have hl11 : w.heap.size < w11.heap.size := by (have hq := hb11.size; (try simp at hq); omega)); (try have hm11 : w.heap.size + 1 < w11.heap.size := by (have hq := hb11.size; (try simp at hq); omega)); (try have hn111 : w.heap.size + 1 + 1 < w11.heap.size := by (have hq := hb11.size; (try simp at hq); omega)); (try have hp11 : b < w11.heap.size := by (have hq := hb11.size; (try simp at hq); omega)); (try have ho11 : b' < w11.heap.size := by (have hq := hb11.size; (try simp at hq); omega))
    go_wp2_with fail
    go_at_call 47; refine (InverseProjection_I _ _ _ hn _ hB11.ints).mono ?_; rintro e w12 ⟨v12, rfl, hO12, hb12⟩; obtain ⟨A12, kk12, rfl, hcc12, hcm12, hI12, hF12⟩ := hO12.form; clear hF12; obtain ⟨hc12, hf12, hz12⟩ := bel hb12; (try have hl12 : w.heap.size < w12.heap.size := by (have hq := hb12.size; (try simp at hq); omega)); (try have hm12 : w.heap.size + 1 < w12.heap.size := by (have hq := hb12.size; (try simp at hq); omega)); (try have hn122 : w.heap.size + 1 + 1 < w12.heap.size := by (have hq := hb12.size; (try simp at hq); omega)); (try have hp12 : b < w12.heap.size := by (have hq := hb12.size; (try simp at hq); omega)); (try have ho12 : b' < w12.heap.size := by (have hq := hb12.size; (try simp at hq); omega))
    have hO2e := Own.step hb12 (Own.step hb11 hO2d)
    go_wp2_with fail
    go_at_call 23; refine (toB (eqInt64S_c _ _ _ _ _ _ (by omega) (by omega) _ hI12 hO2e.ints)).mono ?_; rintro e w13 ⟨rfl, hb13⟩; obtain ⟨hc13, hf13, hz13⟩ := bel hb13; (try simp only [World.size_drew, World.cell?_drew, World.frozen?_drew, World.heap_drewN, World.cell?_drewN, World.frozen?_drewN] at hc13 hf13 hz13); (try have hl13 : w.heap.size < w13.heap.size := by (have hq := hb13.size; (try simp at hq); omega)); (try have hm13 : w.heap.size + 1 < w13.heap.size := by (have hq := hb13.size; (try simp at hq); omega)); (try have hn133 : w.heap.size + 1 + 1 < w13.heap.size := by (have hq := hb13.size; (try simp at hq); omega)); (try have hp13 : b < w13.heap.size := by (have hq := hb13.size; (try simp at hq); omega)); (try have ho13 : b' < w13.heap.size := by (have hq := hb13.size; (try simp at hq); omega))
    rw [eqL_self]
    have hM13 := Own.step hb13 (Own.step hb12 (Own.step hb11 hM10))
    go_wp2_with fail
    refine (heldInt64S_c _ _ _ _ (by omega) (by omega) (by omega) _ hM13).mono ?_; rintro e w' ⟨rfl, rfl⟩
    go_wp2
    go_ret
    exact ⟨rfl, Bel.step hb13 (Bel.step hb12 (Bel.step hb11 hbel10))⟩
  · go_enter Try.func13, Try.ntmps13
    go_wp2
    go_ret
    exact ⟨rfl, by repeat (with_reducible first | exact Below.refl _ _ | assumption | refine Bel.alloc ?_ _ | refine Bel.step (by assumption) ?_ | refine Below.drew ?_ | refine Bel.drewN ?_ _ | refine Below.setCell ?_ (by first | exact Nat.le_refl _ | omega | (simp; done) | (simp; omega)) _)⟩
end Go.Proofs.Yteofdedbignhaaa
