/- The statement on rounding, walked. No conditions. -/
import Derived.Test.YteofdedbignhaaaProg
import Derived.Test.YteofdedbignhaaaBase
import Derived.Test.YteofdedbignhaaaL01
import Derived.Test.YteofdedbignhaaaCp
import Derived.Test.YteofdedbignhaaaL22
import Derived.Test.YteofdedbignhaaaL25
import Derived.Test.YteofdedbignhaaaL25b
import Derived.Test.YteofdedbignhaaaL25f
import Derived.WalkKit
import Derived.WalkSpells
import Derived.WalkLawsBesides
import Derived.Lib.Hide
namespace Go.Proofs.Yteofdedbignhaaa
open Go.RowKit
set_option linter.unusedVariables false
theorem FnExactRoundPoint_w (w : World) (x y z : Int) (g0 : (Lit.int .i64 x).wf = true) (g1 : (Lit.int .i64 y).wf = true) (g2 : (Lit.int .i64 z).wf = true) :
    Calls Try.prog 10 #[.agg #[.int .i64 x, .int .i64 y, .int .i64 z]] w fun e w' => e = .returned (.bool true) ∧ Below w.heap.size w w' := by
  have hE := eqP_self
  go_enter Try.func10, Try.ntmps10
  go_wp2_with fail
  go_at_call 32; refine (toRational_c _ _ _ _).mono ?_; rintro e w1 ⟨rfl, hb1⟩; obtain ⟨hc1, hf1, hz1⟩ := bel hb1; (try simp only [World.size_drew, World.cell?_drew, World.frozen?_drew, World.heap_drewN, World.cell?_drewN, World.frozen?_drewN] at hc1 hf1 hz1); (try have hl1 : w.heap.size < w1.heap.size := by (have hq := hb1.size; (try simp at hq); omega)); (try have hm1 : w.heap.size + 1 < w1.heap.size := by (have hq := hb1.size; (try simp at hq); omega)); (try have hn1 : w.heap.size + 1 + 1 < w1.heap.size := by (have hq := hb1.size; (try simp at hq); omega)); (try have hp1 : b < w1.heap.size := by (have hq := hb1.size; (try simp at hq); omega)); (try have ho1 : b' < w1.heap.size := by (have hq := hb1.size; (try simp at hq); omega))
  go_wp2_with fail
  go_at_call 34; refine (RoundPoint_S _ _ _ _).mono ?_; rintro e w2 ⟨rfl, hb2⟩; obtain ⟨hc2, hf2, hz2⟩ := bel hb2; (try simp only [World.size_drew, World.cell?_drew, World.frozen?_drew, World.heap_drewN, World.cell?_drewN, World.frozen?_drewN] at hc2 hf2 hz2); (try have hl2 : w.heap.size < w2.heap.size := by (have hq := hb2.size; (try simp at hq); omega)); (try have hm2 : w.heap.size + 1 < w2.heap.size := by (have hq := hb2.size; (try simp at hq); omega)); (try have hn2 : w.heap.size + 1 + 1 < w2.heap.size := by (have hq := hb2.size; (try simp at hq); omega)); (try have hp2 : b < w2.heap.size := by (have hq := hb2.size; (try simp at hq); omega)); (try have ho2 : b' < w2.heap.size := by (have hq := hb2.size; (try simp at hq); omega))
  go_wp2_with fail
  go_at_call 32; refine (toRational_c _ _ _ _).mono ?_; rintro e w3 ⟨rfl, hb3⟩; obtain ⟨hc3, hf3, hz3⟩ := bel hb3; (try simp only [World.size_drew, World.cell?_drew, World.frozen?_drew, World.heap_drewN, World.cell?_drewN, World.frozen?_drewN] at hc3 hf3 hz3); (try have hl3 : w.heap.size < w3.heap.size := by (have hq := hb3.size; (try simp at hq); omega)); (try have hm3 : w.heap.size + 1 < w3.heap.size := by (have hq := hb3.size; (try simp at hq); omega)); (try have hn3 : w.heap.size + 1 + 1 < w3.heap.size := by (have hq := hb3.size; (try simp at hq); omega)); (try have hp3 : b < w3.heap.size := by (have hq := hb3.size; (try simp at hq); omega)); (try have ho3 : b' < w3.heap.size := by (have hq := hb3.size; (try simp at hq); omega))
  have q0 : w3.cell? ⟨w2.heap.size, 0, none⟩ = some (.int .i64 (rndV x y z x)) := by simp [go_sem, *]
  have q1 : w3.cell? ⟨w2.heap.size, 1, none⟩ = some (.int .i64 (rndV x y z y)) := by simp [go_sem, *]
  have q2 : w2.heap.size < w3.heap.size := by have := hb3.size; simp at this; omega
  go_wp2_with fail
  go_at_call 35; refine (RoundPoint_I _ _ _ _).mono ?_; rintro e w4 ⟨rfl, hb4⟩; obtain ⟨hc4, hf4, hz4⟩ := bel hb4; (try simp only [World.size_drew, World.cell?_drew, World.frozen?_drew, World.heap_drewN, World.cell?_drewN, World.frozen?_drewN] at hc4 hf4 hz4); (try have hl4 : w.heap.size < w4.heap.size := by (have hq := hb4.size; (try simp at hq); omega)); (try have hm4 : w.heap.size + 1 < w4.heap.size := by (have hq := hb4.size; (try simp at hq); omega)); (try have hn4 : w.heap.size + 1 + 1 < w4.heap.size := by (have hq := hb4.size; (try simp at hq); omega)); (try have hp4 : b < w4.heap.size := by (have hq := hb4.size; (try simp at hq); omega)); (try have ho4 : b' < w4.heap.size := by (have hq := hb4.size; (try simp at hq); omega))
  have r0 : w4.cell? ⟨w2.heap.size, 0, none⟩ = some (.int .i64 (rndV x y z x)) := by simp [go_sem, *]
  have r1 : w4.cell? ⟨w2.heap.size, 1, none⟩ = some (.int .i64 (rndV x y z y)) := by simp [go_sem, *]
  have r2 : w2.heap.size < w4.heap.size := by have := hb4.size; omega
  go_wp2_with (first | (go_at_call 36; refine (eqPoint_c _ _ _ _ _).mono ?_; rintro e w1 ⟨rfl, hb1⟩; obtain ⟨hc1, hf1, hz1⟩ := bel hb1; (try simp only [World.size_drew, World.cell?_drew, World.frozen?_drew, World.heap_drewN, World.cell?_drewN, World.frozen?_drewN] at hc1 hf1 hz1); (try have hl1 : w.heap.size < w1.heap.size := by (have hq := hb1.size; (try simp at hq); omega)); (try have hm1 : w.heap.size + 1 < w1.heap.size := by (have hq := hb1.size; (try simp at hq); omega)); (try have hn1 : w.heap.size + 1 + 1 < w1.heap.size := by (have hq := hb1.size; (try simp at hq); omega)); (try have hp1 : b < w1.heap.size := by (have hq := hb1.size; (try simp at hq); omega)); (try have ho1 : b' < w1.heap.size := by (have hq := hb1.size; (try simp at hq); omega))))
  go_ret
  exact ⟨rfl, by repeat (with_reducible first | exact Below.refl _ _ | assumption | refine Bel.alloc ?_ _ | refine Bel.step (by assumption) ?_ | refine Below.drew ?_ | refine Bel.drewN ?_ _ | refine Below.setCell ?_ (by first | exact Nat.le_refl _ | omega | (simp; done) | (simp; omega)) _)⟩
end Go.Proofs.Yteofdedbignhaaa
