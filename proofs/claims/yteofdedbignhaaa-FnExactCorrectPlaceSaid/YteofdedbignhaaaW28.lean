/- The statements of chapter 28, walked. No conditions. -/
import Derived.Test.YteofdedbignhaaaProg
import Derived.Test.YteofdedbignhaaaBase
import Derived.Test.YteofdedbignhaaaL01
import Derived.Test.YteofdedbignhaaaCp
import Derived.Test.YteofdedbignhaaaL28
import Derived.WalkKit
import Derived.WalkSpells
import Derived.WalkLawsBesides
import Derived.Lib.Hide
namespace Go.Proofs.Yteofdedbignhaaa
open Go.RowKit
set_option linter.unusedVariables false
theorem FnExactIsModel_w (s z : Int) (g0 : (Lit.int .i64 s).wf = true) (g1 : (Lit.int .i64 z).wf = true) (w : World) :
    Calls Try.prog 3 #[.agg #[.int .i64 s, .int .i64 z]] w fun e w' => e = .returned (.bool true) ∧ Below w.heap.size w w' := by
  go_enter Try.func3, Try.ntmps3
  go_wp2_with (first | (go_at_call 16; refine (toModel_c _ _ _).mono ?_; rintro e w1 ⟨rfl, hb1⟩; obtain ⟨hc1, hf1, hz1⟩ := bel hb1; (try simp only [World.size_drew, World.cell?_drew, World.frozen?_drew, World.heap_drewN, World.cell?_drewN, World.frozen?_drewN] at hc1 hf1 hz1)) | (go_at_call 15; refine (isModel_S _ _ _).mono ?_; rintro e w1 ⟨rfl, hb1⟩; obtain ⟨hc1, hf1, hz1⟩ := bel hb1; (try simp only [World.size_drew, World.cell?_drew, World.frozen?_drew, World.heap_drewN, World.cell?_drewN, World.frozen?_drewN] at hc1 hf1 hz1)) | (go_at_call 17; refine (isModel_I _ _ _).mono ?_; rintro e w1 ⟨rfl, hb1⟩; obtain ⟨hc1, hf1, hz1⟩ := bel hb1; (try simp only [World.size_drew, World.cell?_drew, World.frozen?_drew, World.heap_drewN, World.cell?_drewN, World.frozen?_drewN] at hc1 hf1 hz1)))
  go_ret
  exact ⟨rfl, by repeat (first | exact Below.refl _ _ | assumption | refine Bel.alloc ?_ _ | refine Bel.step (by assumption) ?_ | refine Below.drew ?_ | refine Bel.drewN ?_ _)⟩
theorem FnExactSeenAt_w (s z : Int) (g0 : (Lit.int .i64 s).wf = true) (g1 : (Lit.int .i64 z).wf = true) (t : Int) (g2 : (Lit.int .i64 t).wf = true) (w : World) :
    Calls Try.prog 4 #[.agg #[.int .i64 s, .int .i64 z], .int .i64 t] w fun e w' => e = .returned (.bool true) ∧ Below w.heap.size w w' := by
  go_enter Try.func4, Try.ntmps4
  go_wp2_with (first | (go_at_call 16; refine (toModel_c _ _ _).mono ?_; rintro e w1 ⟨rfl, hb1⟩; obtain ⟨hc1, hf1, hz1⟩ := bel hb1; (try simp only [World.size_drew, World.cell?_drew, World.frozen?_drew, World.heap_drewN, World.cell?_drewN, World.frozen?_drewN] at hc1 hf1 hz1)) | (go_at_call 18; refine (SeenAt_S _ _ _ _).mono ?_; rintro e w1 ⟨rfl, hb1⟩; obtain ⟨hc1, hf1, hz1⟩ := bel hb1; (try simp only [World.size_drew, World.cell?_drew, World.frozen?_drew, World.heap_drewN, World.cell?_drewN, World.frozen?_drewN] at hc1 hf1 hz1)) | (go_at_call 19; refine (SeenAt_I _ _ _ _).mono ?_; rintro e w1 ⟨rfl, hb1⟩; obtain ⟨hc1, hf1, hz1⟩ := bel hb1; (try simp only [World.size_drew, World.cell?_drew, World.frozen?_drew, World.heap_drewN, World.cell?_drewN, World.frozen?_drewN] at hc1 hf1 hz1)))
  go_ret
  exact ⟨rfl, by repeat (first | exact Below.refl _ _ | assumption | refine Bel.alloc ?_ _ | refine Bel.step (by assumption) ?_ | refine Below.drew ?_ | refine Bel.drewN ?_ _)⟩
theorem FnExactCorrectPlace_w (s z : Int) (g0 : (Lit.int .i64 s).wf = true) (g1 : (Lit.int .i64 z).wf = true) (t : Int) (g2 : (Lit.int .i64 t).wf = true) (w : World) :
    Calls Try.prog 7 #[.agg #[.int .i64 s, .int .i64 z], .int .i64 t] w fun e w' => e = .returned (.bool true) ∧ Below w.heap.size w w' := by
  go_enter Try.func7, Try.ntmps7
  go_wp2_with (first | (go_at_call 16; refine (toModel_c _ _ _).mono ?_; rintro e w1 ⟨rfl, hb1⟩; obtain ⟨hc1, hf1, hz1⟩ := bel hb1; (try simp only [World.size_drew, World.cell?_drew, World.frozen?_drew, World.heap_drewN, World.cell?_drewN, World.frozen?_drewN] at hc1 hf1 hz1)) | (go_at_call 27; refine (CorrectPlace_S _ _ _ _).mono ?_; rintro e w1 ⟨rfl, hb1⟩; obtain ⟨hc1, hf1, hz1⟩ := bel hb1; (try simp only [World.size_drew, World.cell?_drew, World.frozen?_drew, World.heap_drewN, World.cell?_drewN, World.frozen?_drewN] at hc1 hf1 hz1)) | (go_at_call 28; refine (CorrectPlace_I _ _ _ _).mono ?_; rintro e w1 ⟨rfl, hb1⟩; obtain ⟨hc1, hf1, hz1⟩ := bel hb1; (try simp only [World.size_drew, World.cell?_drew, World.frozen?_drew, World.heap_drewN, World.cell?_drewN, World.frozen?_drewN] at hc1 hf1 hz1)))
  go_ret
  exact ⟨rfl, by repeat (first | exact Below.refl _ _ | assumption | refine Bel.alloc ?_ _ | refine Bel.step (by assumption) ?_ | refine Below.drew ?_ | refine Bel.drewN ?_ _)⟩
end Go.Proofs.Yteofdedbignhaaa
