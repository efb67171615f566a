/- The statements' own helpers: copies of arguments, comparisons, marks. Conditions: lengths of at most 2^20. -/
import Derived.Test.YtlphcpmneioogaaProg
import Derived.Test.YtlphcpmneioogaaBase
import Derived.WalkKit
import Derived.WalkSpells
import Derived.WalkLawsBesides
import Derived.Lib.Hide
import Derived.Deep.QuietTactic
import Derived.BigQuiet
import Derived.Deep.Draws
import Derived.Deep.RegionHeld3
namespace Go.Proofs.Ytlphcpmneioogaa
open Go.RowKit
set_option linter.unusedVariables false

theorem info64 : (Try.prog.info? 2).map (fun i => (i.zero, i.size, i.bytes)) = some (some (.int .i64 0), 1, 8) := by kernel_rfl
theorem mk64 (n : Nat) (hn : n ≤ 1048576) (W : World) : (Instr.makeSlice 61 (.int .i64 (n : Int)) (.int .i64 (n : Int))).run Try.prog W = .ok (.slice (some ⟨W.heap.size, 0, none⟩) n n) (W.alloc (.cells (icells (List.replicate n 0)) 2)) := by
  obtain ⟨i0, hi, hz0, hz1, hz2⟩ := info_parts info64
  have h := run_make (P := Try.prog) W 61 2 i0 _ Try.underlying61 hi hz0 .i64 .i64 n n (by omega) (by omega) (by rw [hz2]; omega) (by omega)
  simp only [Int.toNat_natCast, hz1] at h
  rw [← cells_zero]
  exact h
theorem toModel_c (a b : Int) (w : World) :
    Calls Try.prog 5 #[.agg #[.int .i64 a, .int .i64 b]] w fun e w' => e = .returned (.agg #[.int .i64 a, .int .i64 b]) ∧ Below w.heap.size w w' := by
  go_enter Try.func5, Try.ntmps5
  go_wp2
  refine bodyPost_ret (v := .agg #[.int .i64 a, .int .i64 b]) (by simp [results, Try.results5, go_sem]) rfl ⟨rfl, ?_⟩
  repeat (first | exact Below.refl _ _ | refine Bel.alloc ?_ _)
theorem toFigure_c (a b : Int) (w : World) :
    Calls Try.prog 6 #[.agg #[.int .i64 a, .int .i64 b]] w fun e w' => e = .returned (.agg #[.int .i64 a, .int .i64 b]) ∧ Below w.heap.size w w' := by
  go_enter Try.func6, Try.ntmps6
  go_wp2
  refine bodyPost_ret (v := .agg #[.int .i64 a, .int .i64 b]) (by simp [results, Try.results6, go_sem]) rfl ⟨rfl, ?_⟩
  repeat (first | exact Below.refl _ _ | refine Bel.alloc ?_ _)
theorem eqFigure_c (a b c d : Int) (w : World) :
    Calls Try.prog 8 #[.agg #[.int .i64 a, .int .i64 b], .agg #[.int .i64 c, .int .i64 d]] w fun e w' => e = .returned (.bool (eqP (a, b) (c, d))) ∧ Below w.heap.size w w' := by
  by_cases h1 : a = c
  · have b1 : (a != c) = false := by simp [h1]
    by_cases h2 : b = d
    · have b2 : (b != d) = false := by simp [h2]
      have H := Lib.hid (And.intro h1 h2)
      clear h1 h2
      go_enter Try.func8, Try.ntmps8
      go_wp2
      go_ret
      refine ⟨ret_bool (by simp [eqP, H.out.1, H.out.2]), ?_⟩
      repeat (first | exact Below.refl _ _ | refine Bel.alloc ?_ _ | refine Bel.drewN ?_ _ | refine Below.drew ?_)
    · have b2 : (b != d) = true := by simp [h2]
      have H := Lib.hid (And.intro h1 h2)
      clear h1 h2
      go_enter Try.func8, Try.ntmps8
      go_wp2
      go_ret
      refine ⟨ret_bool (by simp [eqP, H.out.2]), ?_⟩
      repeat (first | exact Below.refl _ _ | refine Bel.alloc ?_ _ | refine Bel.drewN ?_ _ | refine Below.drew ?_)
  · have b1 : (a != c) = true := by simp [h1]
    have H := Lib.hid h1
    clear h1
    go_enter Try.func8, Try.ntmps8
    go_wp2
    go_ret
    refine ⟨ret_bool (by simp [eqP, H.out]), ?_⟩
    repeat (first | exact Below.refl _ _ | refine Bel.alloc ?_ _ | refine Bel.drewN ?_ _ | refine Below.drew ?_)
end Go.Proofs.Ytlphcpmneioogaa
