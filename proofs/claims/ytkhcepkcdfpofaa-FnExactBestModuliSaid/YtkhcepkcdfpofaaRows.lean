/-
  No cell of these rows narrows 'for every input' (looked for: loops, veiled, ifaces, maps, wideKeys, modest, calm, conditions, laid).
  DERIVED. THE GIVEN ROWS OF THIS SEAT. 10 by the template 'for every input the law returns true; each argument reads behind the call as it read before'; 0 by the template 'total and deterministic' (their statements: YtkhcepkcdfpofaaTotals.lean).
  GIVEN WITH THE SEED: the statements are not yours to turn. If you find one false, say at which input.
  Laid BY PROGRAM, IN A SANDBOX (cutbox-rows.mjs): the forced cells as the released guide's own fill.sh prints them over the translation 6638a74e9364727e… (all of the seat's roots in one cut). By AI agents, Wed Nov 11 2026. No macro, syntax, notation, axiom, sorry.
-/
import Derived.Test.YtkhcepkcdfpofaaChecked
import GoSem.Claim
import GoSem.ClaimJoined
import GoSem.ClaimMapViews
import Derived.JoinedTies
import Derived.KernelRfl
namespace Go.Proofs.Ytkhcepkcdfpofaa
/- THE CELL 'sum', in the pinned program and in every row, IS THE sha256 OF THE DUMP (.gsa) THAT YtkhcepkcdfpofaaProg.lean LOADS. Nothing in Lean hashes anything: it is a label: what it is worth is what the hold of that sum in a sandbox is worth. -/
noncomputable def Try.pinned : Pinned := { name := "ytkhcepkcdfpofaa", sum := "6638a74e9364727e9636dcbd729c18682804774309884b1cc386f1b69f9db8ef", checked := Try.checked }
namespace Rows
def none {H : Type} : Left H := { results := [], args := [] }

/-- 'laws.FnExactLayoutError': WHATEVER THE INPUT: true; the input reads as it did. -/
def fnExactLayoutErrorSpec : ChangeSpec := { name := "fnExactLayoutError", fn := fun _ => fun
  | [d1, d2, d3, d4] => { results := [.lit (.bool true)], args := [d1, d2, d3, d4] }
  | _ => none }
def fnExactLayoutErrorRow : OpenClaim := { program := "ytkhcepkcdfpofaa", sum := "6638a74e9364727e9636dcbd729c18682804774309884b1cc386f1b69f9db8ef", func := "loop.example/g00951/laws.FnExactLayoutError", spec := "fnExactLayoutError", apart := false }
def FnExactLayoutErrorSaid : Prop := fnExactLayoutErrorRow.holds Try.pinned (OpenSpec.ofChange fnExactLayoutErrorSpec)

/-- ITS FALSE NEIGHBOUR: 'it returns false'. Refute it at one input. -/
def fnExactLayoutErrorWrong : ChangeSpec := { name := "fnExactLayoutError", fn := fun _ => fun
  | [d1, d2, d3, d4] => { results := [.lit (.bool false)], args := [d1, d2, d3, d4] }
  | _ => none }
def FnExactLayoutErrorWrongFalsely : Prop := fnExactLayoutErrorRow.holds Try.pinned (OpenSpec.ofChange fnExactLayoutErrorWrong)

/-- 'laws.FnExactWorstPair': WHATEVER THE INPUT: true; the input reads as it did. -/
def fnExactWorstPairSpec : ChangeSpec := { name := "fnExactWorstPair", fn := fun _ => fun
  | [d1, d2, d3, d4] => { results := [.lit (.bool true)], args := [d1, d2, d3, d4] }
  | _ => none }
def fnExactWorstPairRow : OpenClaim := { program := "ytkhcepkcdfpofaa", sum := "6638a74e9364727e9636dcbd729c18682804774309884b1cc386f1b69f9db8ef", func := "loop.example/g00951/laws.FnExactWorstPair", spec := "fnExactWorstPair", apart := false }
def FnExactWorstPairSaid : Prop := fnExactWorstPairRow.holds Try.pinned (OpenSpec.ofChange fnExactWorstPairSpec)

/-- ITS FALSE NEIGHBOUR: 'it returns false'. Refute it at one input. -/
def fnExactWorstPairWrong : ChangeSpec := { name := "fnExactWorstPair", fn := fun _ => fun
  | [d1, d2, d3, d4] => { results := [.lit (.bool false)], args := [d1, d2, d3, d4] }
  | _ => none }
def FnExactWorstPairWrongFalsely : Prop := fnExactWorstPairRow.holds Try.pinned (OpenSpec.ofChange fnExactWorstPairWrong)

/-- 'laws.FnExactHeightOf': WHATEVER THE INPUT: true; the input reads as it did. -/
def fnExactHeightOfSpec : ChangeSpec := { name := "fnExactHeightOf", fn := fun _ => fun
  | [d1, d2, d3] => { results := [.lit (.bool true)], args := [d1, d2, d3] }
  | _ => none }
def fnExactHeightOfRow : OpenClaim := { program := "ytkhcepkcdfpofaa", sum := "6638a74e9364727e9636dcbd729c18682804774309884b1cc386f1b69f9db8ef", func := "loop.example/g00951/laws.FnExactHeightOf", spec := "fnExactHeightOf", apart := false }
def FnExactHeightOfSaid : Prop := fnExactHeightOfRow.holds Try.pinned (OpenSpec.ofChange fnExactHeightOfSpec)

/-- ITS FALSE NEIGHBOUR: 'it returns false'. Refute it at one input. -/
def fnExactHeightOfWrong : ChangeSpec := { name := "fnExactHeightOf", fn := fun _ => fun
  | [d1, d2, d3] => { results := [.lit (.bool false)], args := [d1, d2, d3] }
  | _ => none }
def FnExactHeightOfWrongFalsely : Prop := fnExactHeightOfRow.holds Try.pinned (OpenSpec.ofChange fnExactHeightOfWrong)

/-- 'laws.FnExactCompareLayouts': WHATEVER THE INPUT: true; the input reads as it did. -/
def fnExactCompareLayoutsSpec : ChangeSpec := { name := "fnExactCompareLayouts", fn := fun _ => fun
  | [d1, d2, d3, d4, d5] => { results := [.lit (.bool true)], args := [d1, d2, d3, d4, d5] }
  | _ => none }
def fnExactCompareLayoutsRow : OpenClaim := { program := "ytkhcepkcdfpofaa", sum := "6638a74e9364727e9636dcbd729c18682804774309884b1cc386f1b69f9db8ef", func := "loop.example/g00951/laws.FnExactCompareLayouts", spec := "fnExactCompareLayouts", apart := false }
def FnExactCompareLayoutsSaid : Prop := fnExactCompareLayoutsRow.holds Try.pinned (OpenSpec.ofChange fnExactCompareLayoutsSpec)

/-- ITS FALSE NEIGHBOUR: 'it returns false'. Refute it at one input. -/
def fnExactCompareLayoutsWrong : ChangeSpec := { name := "fnExactCompareLayouts", fn := fun _ => fun
  | [d1, d2, d3, d4, d5] => { results := [.lit (.bool false)], args := [d1, d2, d3, d4, d5] }
  | _ => none }
def FnExactCompareLayoutsWrongFalsely : Prop := fnExactCompareLayoutsRow.holds Try.pinned (OpenSpec.ofChange fnExactCompareLayoutsWrong)

/-- 'laws.FnExactWidestRange': WHATEVER THE INPUT: true; the input reads as it did. -/
def fnExactWidestRangeSpec : ChangeSpec := { name := "fnExactWidestRange", fn := fun _ => fun
  | [d1, d2] => { results := [.lit (.bool true)], args := [d1, d2] }
  | _ => none }
def fnExactWidestRangeRow : OpenClaim := { program := "ytkhcepkcdfpofaa", sum := "6638a74e9364727e9636dcbd729c18682804774309884b1cc386f1b69f9db8ef", func := "loop.example/g00951/laws.FnExactWidestRange", spec := "fnExactWidestRange", apart := false }
def FnExactWidestRangeSaid : Prop := fnExactWidestRangeRow.holds Try.pinned (OpenSpec.ofChange fnExactWidestRangeSpec)

/-- ITS FALSE NEIGHBOUR: 'it returns false'. Refute it at one input. -/
def fnExactWidestRangeWrong : ChangeSpec := { name := "fnExactWidestRange", fn := fun _ => fun
  | [d1, d2] => { results := [.lit (.bool false)], args := [d1, d2] }
  | _ => none }
def FnExactWidestRangeWrongFalsely : Prop := fnExactWidestRangeRow.holds Try.pinned (OpenSpec.ofChange fnExactWidestRangeWrong)

/-- 'laws.FnExactTightenBound': WHATEVER THE INPUT: true; the input reads as it did. -/
def fnExactTightenBoundSpec : ChangeSpec := { name := "fnExactTightenBound", fn := fun _ => fun
  | [d] => { results := [.lit (.bool true)], args := [d] }
  | _ => none }
def fnExactTightenBoundRow : OpenClaim := { program := "ytkhcepkcdfpofaa", sum := "6638a74e9364727e9636dcbd729c18682804774309884b1cc386f1b69f9db8ef", func := "loop.example/g00951/laws.FnExactTightenBound", spec := "fnExactTightenBound", apart := false }
def FnExactTightenBoundSaid : Prop := fnExactTightenBoundRow.holds Try.pinned (OpenSpec.ofChange fnExactTightenBoundSpec)

/-- ITS FALSE NEIGHBOUR: 'it returns false'. Refute it at one input. -/
def fnExactTightenBoundWrong : ChangeSpec := { name := "fnExactTightenBound", fn := fun _ => fun
  | [d] => { results := [.lit (.bool false)], args := [d] }
  | _ => none }
def FnExactTightenBoundWrongFalsely : Prop := fnExactTightenBoundRow.holds Try.pinned (OpenSpec.ofChange fnExactTightenBoundWrong)

/-- 'laws.FnExactTestPair': WHATEVER THE INPUT: true; the input reads as it did. -/
def fnExactTestPairSpec : ChangeSpec := { name := "fnExactTestPair", fn := fun _ => fun
  | [d1, d2, d3] => { results := [.lit (.bool true)], args := [d1, d2, d3] }
  | _ => none }
def fnExactTestPairRow : OpenClaim := { program := "ytkhcepkcdfpofaa", sum := "6638a74e9364727e9636dcbd729c18682804774309884b1cc386f1b69f9db8ef", func := "loop.example/g00951/laws.FnExactTestPair", spec := "fnExactTestPair", apart := false }
def FnExactTestPairSaid : Prop := fnExactTestPairRow.holds Try.pinned (OpenSpec.ofChange fnExactTestPairSpec)

/-- ITS FALSE NEIGHBOUR: 'it returns false'. Refute it at one input. -/
def fnExactTestPairWrong : ChangeSpec := { name := "fnExactTestPair", fn := fun _ => fun
  | [d1, d2, d3] => { results := [.lit (.bool false)], args := [d1, d2, d3] }
  | _ => none }
def FnExactTestPairWrongFalsely : Prop := fnExactTestPairRow.holds Try.pinned (OpenSpec.ofChange fnExactTestPairWrong)

/-- 'laws.FnExactReadRelease': WHATEVER THE INPUT: true; the input reads as it did. -/
def fnExactReadReleaseSpec : ChangeSpec := { name := "fnExactReadRelease", fn := fun _ => fun
  | [d1, d2, d3] => { results := [.lit (.bool true)], args := [d1, d2, d3] }
  | _ => none }
def fnExactReadReleaseRow : OpenClaim := { program := "ytkhcepkcdfpofaa", sum := "6638a74e9364727e9636dcbd729c18682804774309884b1cc386f1b69f9db8ef", func := "loop.example/g00951/laws.FnExactReadRelease", spec := "fnExactReadRelease", unfollowed := true, recurses := true, apart := false }
def FnExactReadReleaseSaid : Prop := fnExactReadReleaseRow.holds Try.pinned (OpenSpec.ofChange fnExactReadReleaseSpec)

/-- ITS FALSE NEIGHBOUR: 'it returns false'. Refute it at one input. -/
def fnExactReadReleaseWrong : ChangeSpec := { name := "fnExactReadRelease", fn := fun _ => fun
  | [d1, d2, d3] => { results := [.lit (.bool false)], args := [d1, d2, d3] }
  | _ => none }
def FnExactReadReleaseWrongFalsely : Prop := fnExactReadReleaseRow.holds Try.pinned (OpenSpec.ofChange fnExactReadReleaseWrong)

/-- 'laws.FnExactBestModuli': WHATEVER THE INPUT: true; the input reads as it did. -/
def fnExactBestModuliSpec : ChangeSpec := { name := "fnExactBestModuli", fn := fun _ => fun
  | [d1, d2, d3, d4, d5, d6] => { results := [.lit (.bool true)], args := [d1, d2, d3, d4, d5, d6] }
  | _ => none }
def fnExactBestModuliRow : OpenClaim := { program := "ytkhcepkcdfpofaa", sum := "6638a74e9364727e9636dcbd729c18682804774309884b1cc386f1b69f9db8ef", func := "loop.example/g00951/laws.FnExactBestModuli", spec := "fnExactBestModuli", unfollowed := true, recurses := true, apart := false }
def FnExactBestModuliSaid : Prop := fnExactBestModuliRow.holds Try.pinned (OpenSpec.ofChange fnExactBestModuliSpec)

/-- ITS FALSE NEIGHBOUR: 'it returns false'. Refute it at one input. -/
def fnExactBestModuliWrong : ChangeSpec := { name := "fnExactBestModuli", fn := fun _ => fun
  | [d1, d2, d3, d4, d5, d6] => { results := [.lit (.bool false)], args := [d1, d2, d3, d4, d5, d6] }
  | _ => none }
def FnExactBestModuliWrongFalsely : Prop := fnExactBestModuliRow.holds Try.pinned (OpenSpec.ofChange fnExactBestModuliWrong)

/-- 'laws.FnExactWornFigure': WHATEVER THE INPUT: true; the input reads as it did. -/
def fnExactWornFigureSpec : ChangeSpec := { name := "fnExactWornFigure", fn := fun _ => fun
  | [d1, d2, d3, d4] => { results := [.lit (.bool true)], args := [d1, d2, d3, d4] }
  | _ => none }
def fnExactWornFigureRow : OpenClaim := { program := "ytkhcepkcdfpofaa", sum := "6638a74e9364727e9636dcbd729c18682804774309884b1cc386f1b69f9db8ef", func := "loop.example/g00951/laws.FnExactWornFigure", spec := "fnExactWornFigure", unfollowed := true, recurses := true, apart := false }
def FnExactWornFigureSaid : Prop := fnExactWornFigureRow.holds Try.pinned (OpenSpec.ofChange fnExactWornFigureSpec)

/-- ITS FALSE NEIGHBOUR: 'it returns false'. Refute it at one input. -/
def fnExactWornFigureWrong : ChangeSpec := { name := "fnExactWornFigure", fn := fun _ => fun
  | [d1, d2, d3, d4] => { results := [.lit (.bool false)], args := [d1, d2, d3, d4] }
  | _ => none }
def FnExactWornFigureWrongFalsely : Prop := fnExactWornFigureRow.holds Try.pinned (OpenSpec.ofChange fnExactWornFigureWrong)

/- THE SECOND FORM. 'bulk': how many values and letters a reading holds, each counted each time it is reached (what is shared counts as often as it is met; a slice's spare places count too). A statement '..UptoSaid' is the law's where the arguments, and the package variables that the reading takes, are together of bulk at most 1048576: NARROWER than '..Said'. Prove '..Said' where nothing that the law and all that it calls make is longer than what came in: it says more and counts as full. Else prove '..UptoSaid'. A law counts once. -/
mutual
def uptoBulk {H : Type} : DataW H → Nat
  | .lit (.string bytes) => bytes.length + 1
  | .lit _ => 1
  | .nil => 1
  | .ptr d => uptoBulk d + 1
  | .slice elems spare => uptoBulkAll elems + uptoBulkAll spare + 1
  | .agg parts => uptoBulkAll parts + 1
  | .iface _ d => uptoBulk d + 1
  | .map entries => uptoBulkEntries entries + 1
  | .held _ => 1
def uptoBulkAll {H : Type} : List (DataW H) → Nat
  | [] => 0
  | d :: r => uptoBulk d + uptoBulkAll r
def uptoBulkEntries {H : Type} : List (Lit × DataW H) → Nat
  | [] => 0
  | x :: r => uptoBulkEntry x + uptoBulkEntries r
def uptoBulkEntry {H : Type} : Lit × DataW H → Nat
  | (.string bytes, d) => bytes.length + uptoBulk d + 1
  | (_, d) => uptoBulk d + 1
 end
def uptoSmall : (H : Type) → List (DataW H) → Bool := fun _ ds => decide (uptoBulkAll ds ≤ 1048576)
def OpenSpec.upto (s : _root_.Go.ChangeSpec) : _root_.Go.OpenSpec := { _root_.Go.OpenSpec.ofChange s with cond := some uptoSmall }

/-- 'laws.FnExactLayoutError', WHERE WHAT IT READS IS OF BULK AT MOST 1048576: true; the input reads as it did. -/
def fnExactLayoutErrorUptoRow : OpenClaim := { program := "ytkhcepkcdfpofaa", sum := "6638a74e9364727e9636dcbd729c18682804774309884b1cc386f1b69f9db8ef", func := "loop.example/g00951/laws.FnExactLayoutError", spec := "fnExactLayoutError", apart := false, narrowed := true }
def FnExactLayoutErrorUptoSaid : Prop := fnExactLayoutErrorUptoRow.holds Try.pinned (OpenSpec.upto fnExactLayoutErrorSpec)

/-- 'laws.FnExactWorstPair', WHERE WHAT IT READS IS OF BULK AT MOST 1048576: true; the input reads as it did. -/
def fnExactWorstPairUptoRow : OpenClaim := { program := "ytkhcepkcdfpofaa", sum := "6638a74e9364727e9636dcbd729c18682804774309884b1cc386f1b69f9db8ef", func := "loop.example/g00951/laws.FnExactWorstPair", spec := "fnExactWorstPair", apart := false, narrowed := true }
def FnExactWorstPairUptoSaid : Prop := fnExactWorstPairUptoRow.holds Try.pinned (OpenSpec.upto fnExactWorstPairSpec)

/-- 'laws.FnExactHeightOf', WHERE WHAT IT READS IS OF BULK AT MOST 1048576: true; the input reads as it did. -/
def fnExactHeightOfUptoRow : OpenClaim := { program := "ytkhcepkcdfpofaa", sum := "6638a74e9364727e9636dcbd729c18682804774309884b1cc386f1b69f9db8ef", func := "loop.example/g00951/laws.FnExactHeightOf", spec := "fnExactHeightOf", apart := false, narrowed := true }
def FnExactHeightOfUptoSaid : Prop := fnExactHeightOfUptoRow.holds Try.pinned (OpenSpec.upto fnExactHeightOfSpec)

/-- 'laws.FnExactCompareLayouts', WHERE WHAT IT READS IS OF BULK AT MOST 1048576: true; the input reads as it did. -/
def fnExactCompareLayoutsUptoRow : OpenClaim := { program := "ytkhcepkcdfpofaa", sum := "6638a74e9364727e9636dcbd729c18682804774309884b1cc386f1b69f9db8ef", func := "loop.example/g00951/laws.FnExactCompareLayouts", spec := "fnExactCompareLayouts", apart := false, narrowed := true }
def FnExactCompareLayoutsUptoSaid : Prop := fnExactCompareLayoutsUptoRow.holds Try.pinned (OpenSpec.upto fnExactCompareLayoutsSpec)

/-- 'laws.FnExactWidestRange', WHERE WHAT IT READS IS OF BULK AT MOST 1048576: true; the input reads as it did. -/
def fnExactWidestRangeUptoRow : OpenClaim := { program := "ytkhcepkcdfpofaa", sum := "6638a74e9364727e9636dcbd729c18682804774309884b1cc386f1b69f9db8ef", func := "loop.example/g00951/laws.FnExactWidestRange", spec := "fnExactWidestRange", apart := false, narrowed := true }
def FnExactWidestRangeUptoSaid : Prop := fnExactWidestRangeUptoRow.holds Try.pinned (OpenSpec.upto fnExactWidestRangeSpec)

/-- 'laws.FnExactTightenBound', WHERE WHAT IT READS IS OF BULK AT MOST 1048576: true; the input reads as it did. -/
def fnExactTightenBoundUptoRow : OpenClaim := { program := "ytkhcepkcdfpofaa", sum := "6638a74e9364727e9636dcbd729c18682804774309884b1cc386f1b69f9db8ef", func := "loop.example/g00951/laws.FnExactTightenBound", spec := "fnExactTightenBound", apart := false, narrowed := true }
def FnExactTightenBoundUptoSaid : Prop := fnExactTightenBoundUptoRow.holds Try.pinned (OpenSpec.upto fnExactTightenBoundSpec)

/-- 'laws.FnExactTestPair', WHERE WHAT IT READS IS OF BULK AT MOST 1048576: true; the input reads as it did. -/
def fnExactTestPairUptoRow : OpenClaim := { program := "ytkhcepkcdfpofaa", sum := "6638a74e9364727e9636dcbd729c18682804774309884b1cc386f1b69f9db8ef", func := "loop.example/g00951/laws.FnExactTestPair", spec := "fnExactTestPair", apart := false, narrowed := true }
def FnExactTestPairUptoSaid : Prop := fnExactTestPairUptoRow.holds Try.pinned (OpenSpec.upto fnExactTestPairSpec)

/-- 'laws.FnExactReadRelease', WHERE WHAT IT READS IS OF BULK AT MOST 1048576: true; the input reads as it did. -/
def fnExactReadReleaseUptoRow : OpenClaim := { program := "ytkhcepkcdfpofaa", sum := "6638a74e9364727e9636dcbd729c18682804774309884b1cc386f1b69f9db8ef", func := "loop.example/g00951/laws.FnExactReadRelease", spec := "fnExactReadRelease", unfollowed := true, recurses := true, apart := false, narrowed := true }
def FnExactReadReleaseUptoSaid : Prop := fnExactReadReleaseUptoRow.holds Try.pinned (OpenSpec.upto fnExactReadReleaseSpec)

/-- 'laws.FnExactBestModuli', WHERE WHAT IT READS IS OF BULK AT MOST 1048576: true; the input reads as it did. -/
def fnExactBestModuliUptoRow : OpenClaim := { program := "ytkhcepkcdfpofaa", sum := "6638a74e9364727e9636dcbd729c18682804774309884b1cc386f1b69f9db8ef", func := "loop.example/g00951/laws.FnExactBestModuli", spec := "fnExactBestModuli", unfollowed := true, recurses := true, apart := false, narrowed := true }
def FnExactBestModuliUptoSaid : Prop := fnExactBestModuliUptoRow.holds Try.pinned (OpenSpec.upto fnExactBestModuliSpec)

/-- 'laws.FnExactWornFigure', WHERE WHAT IT READS IS OF BULK AT MOST 1048576: true; the input reads as it did. -/
def fnExactWornFigureUptoRow : OpenClaim := { program := "ytkhcepkcdfpofaa", sum := "6638a74e9364727e9636dcbd729c18682804774309884b1cc386f1b69f9db8ef", func := "loop.example/g00951/laws.FnExactWornFigure", spec := "fnExactWornFigure", unfollowed := true, recurses := true, apart := false, narrowed := true }
def FnExactWornFigureUptoSaid : Prop := fnExactWornFigureUptoRow.holds Try.pinned (OpenSpec.upto fnExactWornFigureSpec)

end Rows
end Go.Proofs.Ytkhcepkcdfpofaa
