/- The statements on charts, walked. No conditions. -/
import Derived.Test.YtkhcepkcdfpofaaProg
import Derived.Test.YtkhcepkcdfpofaaBase
import Derived.Test.YtkhcepkcdfpofaaL01
import Derived.Test.YtkhcepkcdfpofaaCp
import Derived.Test.YtkhcepkcdfpofaaCh
import Derived.Test.YtkhcepkcdfpofaaL18
import Derived.Test.YtkhcepkcdfpofaaL23
import Derived.WalkKit
import Derived.WalkSpells
import Derived.WalkLawsBesides
import Derived.Lib.Hide
import Derived.Deep.QuietTactic
import Derived.BigQuiet
import Derived.Deep.Draws
import Derived.Deep.RegionHeld3
namespace Go.Proofs.Ytkhcepkcdfpofaa
open Go.RowKit
set_option linter.unusedVariables false
theorem sz2_ok {C : Ch} (h : C.nm.size + C.zs.length ≤ 1048576) : sz2 1048576 C = 1048576 - C.nm.size - C.zs.length := by
  unfold sz2 szV; rw [if_neg (by omega), if_neg (by omega)]
theorem sz2_no {C : Ch} (h : ¬ C.nm.size + C.zs.length ≤ 1048576) : sz2 1048576 C = -1 := by
  unfold sz2 szV; split
  · rfl
  · rw [if_pos (by omega)]
theorem Blk.chart {w : World} {g : Nat} {t : TypeId} {C : Ch} {A : Option Addr} {c : Nat} (h : Blk w g t #[.int .i64 C.dg, .int .i64 C.tn, .string C.nm, .slice A C.zs.length c, .int .i64 C.wd, .int .i64 C.lf, .int .i64 C.rt]) : w.cell? ⟨g, 0, none⟩ = some (.int .i64 C.dg) ∧ w.cell? ⟨g, 1, none⟩ = some (.int .i64 C.tn) ∧ w.cell? ⟨g, 2, none⟩ = some (.string C.nm) ∧ w.cell? ⟨g, 3, none⟩ = some (.slice A C.zs.length c) ∧ w.cell? ⟨g, 4, none⟩ = some (.int .i64 C.wd) ∧ w.cell? ⟨g, 5, none⟩ = some (.int .i64 C.lf) ∧ w.cell? ⟨g, 6, none⟩ = some (.int .i64 C.rt) :=
  ⟨by rw [h.cell]; rfl, by rw [h.cell]; rfl, by rw [h.cell]; rfl, by rw [h.cell]; rfl, by rw [h.cell]; rfl, by rw [h.cell]; rfl, by rw [h.cell]; rfl⟩
end Go.Proofs.Ytkhcepkcdfpofaa
