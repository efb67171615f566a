/- Stores of whole structs beside a row of one's own; a struct and a number as results. No conditions. -/
import Derived.Test.YtpmcgicopogbhaaGreatProg
import Derived.Test.YtpmcgicopogbhaaGreatBase
import Derived.Test.YtpmcgicopogbhaaGreatRw
import Derived.Test.YtpmcgicopogbhaaGreatCm
import Derived.WalkKit
import Derived.Lib.Hide
namespace Go.Proofs.YtpmcgicopogbhaaGreat
open Go.RowKit
set_option linter.unusedVariables false
theorem grown_setRow (w : World) (g : Nat) (cs : Array Value) : w.grownBy (w.setRow g cs) (some g) :=
  ⟨rfl, rfl, rfl, by simp [World.setRow], fun i _ hne => setRow_other w g i cs (fun e => hne (congrArg some e))⟩
theorem Own.setRow_lo {w : World} {B g : Nat} {T : TypeId} {v : Value} {zs : List Int} (h : Own w B T v zs) (hg : g < B) (cs : Array Value) : Own (w.setRow g cs) B T v zs :=
  Own.kept h (grown_setRow w g cs) (.inr fun e => by have := (h.lt g e).1; omega)
theorem Own.setCell_lo {w : World} {B g o : Nat} {T : TypeId} {v : Value} {zs : List Int} (h : Own w B T v zs) (hg : g < B) (u : Value) : Own (w.setCell ⟨g, o, none⟩ u) B T v zs :=
  Own.kept h (grown_set (World.grownBy.refl w _) u) (.inr fun e => by have := (h.lt g e).1; omega)
theorem Own.setCell_hi {w : World} {B g o : Nat} {T : TypeId} {v : Value} {zs : List Int} (h : Own w B T v zs) (hg : w.heap.size ≤ g) (u : Value) : Own (w.setCell ⟨g, o, none⟩ u) B T v zs :=
  Own.kept h (grown_set (World.grownBy.refl w _) u) (.inr fun e => by have := (h.lt g e).2; omega)
theorem results_blk2 {P : Program} {fn : Func} {p q : Tmp} {ty : TypeId} {tmps : Array Value} {w : World} {g : Nat} {t : TypeId} {cs : Array Value} {fs : Array Field} (hB : Blk w g t cs) (hu : P.underlying ty = some (.struct fs)) (hi : (P.info? ty).map (·.size) = some cs.size)
    (h : fn.results = #[.cell p ty, .tmp q]) (hp : tmps.getD p undef = .pointer (some ⟨g, 0, none⟩)) : (results fn tmps).run P w = .ok (.tuple #[.agg cs, tmps.getD q undef]) w := by
  have hp' : tmps[p]?.getD undef = .pointer (some ⟨g, 0, none⟩) := by simpa using hp
  simp [results, h, hp', asAddr, run_loadVar_row w g t ty cs (0, 0) _ hB hu rfl hi]
end Go.Proofs.YtpmcgicopogbhaaGreat
