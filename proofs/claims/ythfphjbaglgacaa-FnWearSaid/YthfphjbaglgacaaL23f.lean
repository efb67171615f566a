/- Chapter 23: places on the scales of a chart, with the codes. Conditions: as stated at each contract. -/
import Derived.Test.YthfphjbaglgacaaProg
import Derived.Test.YthfphjbaglgacaaBase
import Derived.Test.YthfphjbaglgacaaL01
import Derived.Test.YthfphjbaglgacaaCp
import Derived.Test.YthfphjbaglgacaaL18
import Derived.Test.YthfphjbaglgacaaL23
import Derived.Test.YthfphjbaglgacaaL03
import Derived.Test.YthfphjbaglgacaaL23d
import Derived.Test.YthfphjbaglgacaaL23e
import Derived.WalkKit
import Derived.WalkSpells
import Derived.WalkLawsBesides
import Derived.Lib.Hide
import Derived.Deep.QuietTactic
import Derived.BigQuiet
import Derived.Deep.Draws
import Derived.Deep.RegionHeld3
namespace Go.Proofs.Ythfphjbaglgacaa
open Go.RowKit
set_option linter.unusedVariables false
theorem chartPlace_c (C : Ch) (A : Option Addr) (c : Nat) (sc dg tn : Int) (h : okCh C = true) (hf : okF dg tn = true) (hs : inB sc 0 2 = true) (w : World) (hA : Ints w A C.zs) :
    Calls Try.prog 113 #[.agg #[.int .i64 C.dg, .int .i64 C.tn, .string C.nm, .slice A C.zs.length c, .int .i64 C.wd, .int .i64 C.lf, .int .i64 C.rt], .int .i64 sc, .agg #[.int .i64 dg, .int .i64 tn]] w fun r w' => r = .returned (.tuple #[.agg #[.int .i64 (plL C sc dg tn), .int .i64 (plH C sc dg tn)], .int .i64 (plC C sc dg tn)]) ∧ Below w.heap.size w w' := by
  rcases sc_cases hs with rfl | rfl | rfl
  · exact chartPlace_0 C A c dg tn h hf w hA
  · exact chartPlace_1 C A c dg tn h hf w hA
  · exact chartPlace_2 C A c dg tn h hf w hA
end Go.Proofs.Ythfphjbaglgacaa
