/-
  No cell of these rows narrows 'for every input' (looked for: loops, veiled, ifaces, maps, wideKeys, modest, calm, conditions, laid).
  DERIVED. THE GIVEN ROWS OF THIS SEAT. 12 by the template 'for every input the law returns true; each argument reads behind the call as it read before'; 0 by the template 'total and deterministic' (their statements: YteldaadpcponfaaTotals.lean).
  GIVEN WITH THE SEED: the statements are not yours to turn. If you find one false, say at which input.
  Laid BY PROGRAM, IN A SANDBOX (cutbox-rows.mjs): the forced cells as the released guide's own fill.sh prints them over the translation 5becbbc5f2e745e7… (all of the seat's roots in one cut). By AI agents, Wed Nov 11 2026. No macro, syntax, notation, axiom, sorry.
-/
import Derived.Test.YteldaadpcponfaaChecked
import GoSem.Claim
import GoSem.ClaimJoined
import GoSem.ClaimMapViews
import Derived.JoinedTies
import Derived.KernelRfl
namespace Go.Proofs.Yteldaadpcponfaa
/- THE CELL 'sum', in the pinned program and in every row, IS THE sha256 OF THE DUMP (.gsa) THAT YteldaadpcponfaaProg.lean LOADS. Nothing in Lean hashes anything: it is a label: what it is worth is what the hold of that sum in a sandbox is worth. -/
noncomputable def Try.pinned : Pinned := { name := "yteldaadpcponfaa", sum := "5becbbc5f2e745e7a48df8c6759a5b46c21603d90469a564742a4f04b4dcc619", checked := Try.checked }
namespace Rows
def none {H : Type} : Left H := { results := [], args := [] }

/-- 'laws.FnExactFindOther': WHATEVER THE INPUT: true; the input reads as it did. -/
def fnExactFindOtherSpec : ChangeSpec := { name := "fnExactFindOther", fn := fun _ => fun
  | [d1, d2, d3, d4] => { results := [.lit (.bool true)], args := [d1, d2, d3, d4] }
  | _ => none }
def fnExactFindOtherRow : OpenClaim := { program := "yteldaadpcponfaa", sum := "5becbbc5f2e745e7a48df8c6759a5b46c21603d90469a564742a4f04b4dcc619", func := "loop.example/g00951/laws.FnExactFindOther", spec := "fnExactFindOther", apart := false }
def FnExactFindOtherSaid : Prop := fnExactFindOtherRow.holds Try.pinned (OpenSpec.ofChange fnExactFindOtherSpec)

/-- ITS FALSE NEIGHBOUR: 'it returns false'. Refute it at one input. -/
def fnExactFindOtherWrong : ChangeSpec := { name := "fnExactFindOther", fn := fun _ => fun
  | [d1, d2, d3, d4] => { results := [.lit (.bool false)], args := [d1, d2, d3, d4] }
  | _ => none }
def FnExactFindOtherWrongFalsely : Prop := fnExactFindOtherRow.holds Try.pinned (OpenSpec.ofChange fnExactFindOtherWrong)

/-- 'laws.FnExactExactSpan': WHATEVER THE INPUT: true; the input reads as it did. -/
def fnExactExactSpanSpec : ChangeSpec := { name := "fnExactExactSpan", fn := fun _ => fun
  | [d1, d2, d3] => { results := [.lit (.bool true)], args := [d1, d2, d3] }
  | _ => none }
def fnExactExactSpanRow : OpenClaim := { program := "yteldaadpcponfaa", sum := "5becbbc5f2e745e7a48df8c6759a5b46c21603d90469a564742a4f04b4dcc619", func := "loop.example/g00951/laws.FnExactExactSpan", spec := "fnExactExactSpan", unfollowed := true, recurses := true, apart := false }
def FnExactExactSpanSaid : Prop := fnExactExactSpanRow.holds Try.pinned (OpenSpec.ofChange fnExactExactSpanSpec)

/-- ITS FALSE NEIGHBOUR: 'it returns false'. Refute it at one input. -/
def fnExactExactSpanWrong : ChangeSpec := { name := "fnExactExactSpan", fn := fun _ => fun
  | [d1, d2, d3] => { results := [.lit (.bool false)], args := [d1, d2, d3] }
  | _ => none }
def FnExactExactSpanWrongFalsely : Prop := fnExactExactSpanRow.holds Try.pinned (OpenSpec.ofChange fnExactExactSpanWrong)

/-- 'laws.FnExactReadChart': WHATEVER THE INPUT: true; the input reads as it did. -/
def fnExactReadChartSpec : ChangeSpec := { name := "fnExactReadChart", fn := fun _ => fun
  | [d1, d2, d3, d4] => { results := [.lit (.bool true)], args := [d1, d2, d3, d4] }
  | _ => none }
def fnExactReadChartRow : OpenClaim := { program := "yteldaadpcponfaa", sum := "5becbbc5f2e745e7a48df8c6759a5b46c21603d90469a564742a4f04b4dcc619", func := "loop.example/g00951/laws.FnExactReadChart", spec := "fnExactReadChart", apart := false }
def FnExactReadChartSaid : Prop := fnExactReadChartRow.holds Try.pinned (OpenSpec.ofChange fnExactReadChartSpec)

/-- ITS FALSE NEIGHBOUR: 'it returns false'. Refute it at one input. -/
def fnExactReadChartWrong : ChangeSpec := { name := "fnExactReadChart", fn := fun _ => fun
  | [d1, d2, d3, d4] => { results := [.lit (.bool false)], args := [d1, d2, d3, d4] }
  | _ => none }
def FnExactReadChartWrongFalsely : Prop := fnExactReadChartRow.holds Try.pinned (OpenSpec.ofChange fnExactReadChartWrong)

/-- 'laws.FnExactIsOnLine': WHATEVER THE INPUT: true; the input reads as it did. -/
def fnExactIsOnLineSpec : ChangeSpec := { name := "fnExactIsOnLine", fn := fun _ => fun
  | [d1, d2, d3, d4, d5] => { results := [.lit (.bool true)], args := [d1, d2, d3, d4, d5] }
  | _ => none }
def fnExactIsOnLineRow : OpenClaim := { program := "yteldaadpcponfaa", sum := "5becbbc5f2e745e7a48df8c6759a5b46c21603d90469a564742a4f04b4dcc619", func := "loop.example/g00951/laws.FnExactIsOnLine", spec := "fnExactIsOnLine", apart := false }
def FnExactIsOnLineSaid : Prop := fnExactIsOnLineRow.holds Try.pinned (OpenSpec.ofChange fnExactIsOnLineSpec)

/-- ITS FALSE NEIGHBOUR: 'it returns false'. Refute it at one input. -/
def fnExactIsOnLineWrong : ChangeSpec := { name := "fnExactIsOnLine", fn := fun _ => fun
  | [d1, d2, d3, d4, d5] => { results := [.lit (.bool false)], args := [d1, d2, d3, d4, d5] }
  | _ => none }
def FnExactIsOnLineWrongFalsely : Prop := fnExactIsOnLineRow.holds Try.pinned (OpenSpec.ofChange fnExactIsOnLineWrong)

/-- 'laws.FnExactChartHeight': WHATEVER THE INPUT: true; the input reads as it did. -/
def fnExactChartHeightSpec : ChangeSpec := { name := "fnExactChartHeight", fn := fun _ => fun
  | [d1, d2, d3, d4] => { results := [.lit (.bool true)], args := [d1, d2, d3, d4] }
  | _ => none }
def fnExactChartHeightRow : OpenClaim := { program := "yteldaadpcponfaa", sum := "5becbbc5f2e745e7a48df8c6759a5b46c21603d90469a564742a4f04b4dcc619", func := "loop.example/g00951/laws.FnExactChartHeight", spec := "fnExactChartHeight", apart := false }
def FnExactChartHeightSaid : Prop := fnExactChartHeightRow.holds Try.pinned (OpenSpec.ofChange fnExactChartHeightSpec)

/-- ITS FALSE NEIGHBOUR: 'it returns false'. Refute it at one input. -/
def fnExactChartHeightWrong : ChangeSpec := { name := "fnExactChartHeight", fn := fun _ => fun
  | [d1, d2, d3, d4] => { results := [.lit (.bool false)], args := [d1, d2, d3, d4] }
  | _ => none }
def FnExactChartHeightWrongFalsely : Prop := fnExactChartHeightRow.holds Try.pinned (OpenSpec.ofChange fnExactChartHeightWrong)

/-- 'laws.FnExactReadingError': WHATEVER THE INPUT: true; the input reads as it did. -/
def fnExactReadingErrorSpec : ChangeSpec := { name := "fnExactReadingError", fn := fun _ => fun
  | [d1, d2, d3, d4] => { results := [.lit (.bool true)], args := [d1, d2, d3, d4] }
  | _ => none }
def fnExactReadingErrorRow : OpenClaim := { program := "yteldaadpcponfaa", sum := "5becbbc5f2e745e7a48df8c6759a5b46c21603d90469a564742a4f04b4dcc619", func := "loop.example/g00951/laws.FnExactReadingError", spec := "fnExactReadingError", apart := false }
def FnExactReadingErrorSaid : Prop := fnExactReadingErrorRow.holds Try.pinned (OpenSpec.ofChange fnExactReadingErrorSpec)

/-- ITS FALSE NEIGHBOUR: 'it returns false'. Refute it at one input. -/
def fnExactReadingErrorWrong : ChangeSpec := { name := "fnExactReadingError", fn := fun _ => fun
  | [d1, d2, d3, d4] => { results := [.lit (.bool false)], args := [d1, d2, d3, d4] }
  | _ => none }
def FnExactReadingErrorWrongFalsely : Prop := fnExactReadingErrorRow.holds Try.pinned (OpenSpec.ofChange fnExactReadingErrorWrong)

/-- 'laws.FnExactGreatestModulus': WHATEVER THE INPUT: true; the input reads as it did. -/
def fnExactGreatestModulusSpec : ChangeSpec := { name := "fnExactGreatestModulus", fn := fun _ => fun
  | [d1, d2, d3, d4] => { results := [.lit (.bool true)], args := [d1, d2, d3, d4] }
  | _ => none }
def fnExactGreatestModulusRow : OpenClaim := { program := "yteldaadpcponfaa", sum := "5becbbc5f2e745e7a48df8c6759a5b46c21603d90469a564742a4f04b4dcc619", func := "loop.example/g00951/laws.FnExactGreatestModulus", spec := "fnExactGreatestModulus", apart := false }
def FnExactGreatestModulusSaid : Prop := fnExactGreatestModulusRow.holds Try.pinned (OpenSpec.ofChange fnExactGreatestModulusSpec)

/-- ITS FALSE NEIGHBOUR: 'it returns false'. Refute it at one input. -/
def fnExactGreatestModulusWrong : ChangeSpec := { name := "fnExactGreatestModulus", fn := fun _ => fun
  | [d1, d2, d3, d4] => { results := [.lit (.bool false)], args := [d1, d2, d3, d4] }
  | _ => none }
def FnExactGreatestModulusWrongFalsely : Prop := fnExactGreatestModulusRow.holds Try.pinned (OpenSpec.ofChange fnExactGreatestModulusWrong)

/-- 'laws.FnExactChartSpan': WHATEVER THE INPUT: true; the input reads as it did. -/
def fnExactChartSpanSpec : ChangeSpec := { name := "fnExactChartSpan", fn := fun _ => fun
  | [d1, d2, d3, d4] => { results := [.lit (.bool true)], args := [d1, d2, d3, d4] }
  | _ => none }
def fnExactChartSpanRow : OpenClaim := { program := "yteldaadpcponfaa", sum := "5becbbc5f2e745e7a48df8c6759a5b46c21603d90469a564742a4f04b4dcc619", func := "loop.example/g00951/laws.FnExactChartSpan", spec := "fnExactChartSpan", unfollowed := true, recurses := true, apart := false }
def FnExactChartSpanSaid : Prop := fnExactChartSpanRow.holds Try.pinned (OpenSpec.ofChange fnExactChartSpanSpec)

/-- ITS FALSE NEIGHBOUR: 'it returns false'. Refute it at one input. -/
def fnExactChartSpanWrong : ChangeSpec := { name := "fnExactChartSpan", fn := fun _ => fun
  | [d1, d2, d3, d4] => { results := [.lit (.bool false)], args := [d1, d2, d3, d4] }
  | _ => none }
def FnExactChartSpanWrongFalsely : Prop := fnExactChartSpanRow.holds Try.pinned (OpenSpec.ofChange fnExactChartSpanWrong)

/-- 'laws.FnExactScalePoints': WHATEVER THE INPUT: true; the input reads as it did. -/
def fnExactScalePointsSpec : ChangeSpec := { name := "fnExactScalePoints", fn := fun _ => fun
  | [d1, d2, d3] => { results := [.lit (.bool true)], args := [d1, d2, d3] }
  | _ => none }
def fnExactScalePointsRow : OpenClaim := { program := "yteldaadpcponfaa", sum := "5becbbc5f2e745e7a48df8c6759a5b46c21603d90469a564742a4f04b4dcc619", func := "loop.example/g00951/laws.FnExactScalePoints", spec := "fnExactScalePoints", apart := false }
def FnExactScalePointsSaid : Prop := fnExactScalePointsRow.holds Try.pinned (OpenSpec.ofChange fnExactScalePointsSpec)

/-- ITS FALSE NEIGHBOUR: 'it returns false'. Refute it at one input. -/
def fnExactScalePointsWrong : ChangeSpec := { name := "fnExactScalePoints", fn := fun _ => fun
  | [d1, d2, d3] => { results := [.lit (.bool false)], args := [d1, d2, d3] }
  | _ => none }
def FnExactScalePointsWrongFalsely : Prop := fnExactScalePointsRow.holds Try.pinned (OpenSpec.ofChange fnExactScalePointsWrong)

/-- 'laws.FnExactIsRelease': WHATEVER THE INPUT: true; the input reads as it did. -/
def fnExactIsReleaseSpec : ChangeSpec := { name := "fnExactIsRelease", fn := fun _ => fun
  | [d] => { results := [.lit (.bool true)], args := [d] }
  | _ => none }
def fnExactIsReleaseRow : OpenClaim := { program := "yteldaadpcponfaa", sum := "5becbbc5f2e745e7a48df8c6759a5b46c21603d90469a564742a4f04b4dcc619", func := "loop.example/g00951/laws.FnExactIsRelease", spec := "fnExactIsRelease", apart := false }
def FnExactIsReleaseSaid : Prop := fnExactIsReleaseRow.holds Try.pinned (OpenSpec.ofChange fnExactIsReleaseSpec)

/-- ITS FALSE NEIGHBOUR: 'it returns false'. Refute it at one input. -/
def fnExactIsReleaseWrong : ChangeSpec := { name := "fnExactIsRelease", fn := fun _ => fun
  | [d] => { results := [.lit (.bool false)], args := [d] }
  | _ => none }
def FnExactIsReleaseWrongFalsely : Prop := fnExactIsReleaseRow.holds Try.pinned (OpenSpec.ofChange fnExactIsReleaseWrong)

/-- 'laws.FnExactIsKept': WHATEVER THE INPUT: true; the input reads as it did. -/
def fnExactIsKeptSpec : ChangeSpec := { name := "fnExactIsKept", fn := fun _ => fun
  | [d] => { results := [.lit (.bool true)], args := [d] }
  | _ => none }
def fnExactIsKeptRow : OpenClaim := { program := "yteldaadpcponfaa", sum := "5becbbc5f2e745e7a48df8c6759a5b46c21603d90469a564742a4f04b4dcc619", func := "loop.example/g00951/laws.FnExactIsKept", spec := "fnExactIsKept", apart := false }
def FnExactIsKeptSaid : Prop := fnExactIsKeptRow.holds Try.pinned (OpenSpec.ofChange fnExactIsKeptSpec)

/-- ITS FALSE NEIGHBOUR: 'it returns false'. Refute it at one input. -/
def fnExactIsKeptWrong : ChangeSpec := { name := "fnExactIsKept", fn := fun _ => fun
  | [d] => { results := [.lit (.bool false)], args := [d] }
  | _ => none }
def FnExactIsKeptWrongFalsely : Prop := fnExactIsKeptRow.holds Try.pinned (OpenSpec.ofChange fnExactIsKeptWrong)

/-- 'laws.FnExactIsCovered': WHATEVER THE INPUT: true; the input reads as it did. -/
def fnExactIsCoveredSpec : ChangeSpec := { name := "fnExactIsCovered", fn := fun _ => fun
  | [d1, d2, d3] => { results := [.lit (.bool true)], args := [d1, d2, d3] }
  | _ => none }
def fnExactIsCoveredRow : OpenClaim := { program := "yteldaadpcponfaa", sum := "5becbbc5f2e745e7a48df8c6759a5b46c21603d90469a564742a4f04b4dcc619", func := "loop.example/g00951/laws.FnExactIsCovered", spec := "fnExactIsCovered", apart := false }
def FnExactIsCoveredSaid : Prop := fnExactIsCoveredRow.holds Try.pinned (OpenSpec.ofChange fnExactIsCoveredSpec)

/-- ITS FALSE NEIGHBOUR: 'it returns false'. Refute it at one input. -/
def fnExactIsCoveredWrong : ChangeSpec := { name := "fnExactIsCovered", fn := fun _ => fun
  | [d1, d2, d3] => { results := [.lit (.bool false)], args := [d1, d2, d3] }
  | _ => none }
def FnExactIsCoveredWrongFalsely : Prop := fnExactIsCoveredRow.holds Try.pinned (OpenSpec.ofChange fnExactIsCoveredWrong)

/- THE SECOND FORM. 'bulk': how many values and letters a reading holds, each counted each time it is reached (what is shared counts as often as it is met; a slice's spare places count too). A statement '..UptoSaid' is the law's where the arguments, and the package variables that the reading takes, are together of bulk at most 1048576: NARROWER than '..Said'. Prove '..Said' where nothing that the law and all that it calls make is longer than what came in: it says more and counts as full. Else prove '..UptoSaid'. A law counts once. -/
mutual
def uptoBulk {H : Type} : DataW H → Nat
  | .lit (.string bytes) => bytes.length + 1
  | .lit _ => 1
  | .nil => 1
  | .ptr d => uptoBulk d + 1
  | .slice elems spare => uptoBulkAll elems + uptoBulkAll spare + 1
  | .agg parts => uptoBulkAll parts + 1
  | .iface _ d => uptoBulk d + 1
  | .map entries => uptoBulkEntries entries + 1
  | .held _ => 1
def uptoBulkAll {H : Type} : List (DataW H) → Nat
  | [] => 0
  | d :: r => uptoBulk d + uptoBulkAll r
def uptoBulkEntries {H : Type} : List (Lit × DataW H) → Nat
  | [] => 0
  | x :: r => uptoBulkEntry x + uptoBulkEntries r
def uptoBulkEntry {H : Type} : Lit × DataW H → Nat
  | (.string bytes, d) => bytes.length + uptoBulk d + 1
  | (_, d) => uptoBulk d + 1
 end
def uptoSmall : (H : Type) → List (DataW H) → Bool := fun _ ds => decide (uptoBulkAll ds ≤ 1048576)
def OpenSpec.upto (s : _root_.Go.ChangeSpec) : _root_.Go.OpenSpec := { _root_.Go.OpenSpec.ofChange s with cond := some uptoSmall }

/-- 'laws.FnExactFindOther', WHERE WHAT IT READS IS OF BULK AT MOST 1048576: true; the input reads as it did. -/
def fnExactFindOtherUptoRow : OpenClaim := { program := "yteldaadpcponfaa", sum := "5becbbc5f2e745e7a48df8c6759a5b46c21603d90469a564742a4f04b4dcc619", func := "loop.example/g00951/laws.FnExactFindOther", spec := "fnExactFindOther", apart := false, narrowed := true }
def FnExactFindOtherUptoSaid : Prop := fnExactFindOtherUptoRow.holds Try.pinned (OpenSpec.upto fnExactFindOtherSpec)

/-- 'laws.FnExactExactSpan', WHERE WHAT IT READS IS OF BULK AT MOST 1048576: true; the input reads as it did. -/
def fnExactExactSpanUptoRow : OpenClaim := { program := "yteldaadpcponfaa", sum := "5becbbc5f2e745e7a48df8c6759a5b46c21603d90469a564742a4f04b4dcc619", func := "loop.example/g00951/laws.FnExactExactSpan", spec := "fnExactExactSpan", unfollowed := true, recurses := true, apart := false, narrowed := true }
def FnExactExactSpanUptoSaid : Prop := fnExactExactSpanUptoRow.holds Try.pinned (OpenSpec.upto fnExactExactSpanSpec)

/-- 'laws.FnExactReadChart', WHERE WHAT IT READS IS OF BULK AT MOST 1048576: true; the input reads as it did. -/
def fnExactReadChartUptoRow : OpenClaim := { program := "yteldaadpcponfaa", sum := "5becbbc5f2e745e7a48df8c6759a5b46c21603d90469a564742a4f04b4dcc619", func := "loop.example/g00951/laws.FnExactReadChart", spec := "fnExactReadChart", apart := false, narrowed := true }
def FnExactReadChartUptoSaid : Prop := fnExactReadChartUptoRow.holds Try.pinned (OpenSpec.upto fnExactReadChartSpec)

/-- 'laws.FnExactIsOnLine', WHERE WHAT IT READS IS OF BULK AT MOST 1048576: true; the input reads as it did. -/
def fnExactIsOnLineUptoRow : OpenClaim := { program := "yteldaadpcponfaa", sum := "5becbbc5f2e745e7a48df8c6759a5b46c21603d90469a564742a4f04b4dcc619", func := "loop.example/g00951/laws.FnExactIsOnLine", spec := "fnExactIsOnLine", apart := false, narrowed := true }
def FnExactIsOnLineUptoSaid : Prop := fnExactIsOnLineUptoRow.holds Try.pinned (OpenSpec.upto fnExactIsOnLineSpec)

/-- 'laws.FnExactChartHeight', WHERE WHAT IT READS IS OF BULK AT MOST 1048576: true; the input reads as it did. -/
def fnExactChartHeightUptoRow : OpenClaim := { program := "yteldaadpcponfaa", sum := "5becbbc5f2e745e7a48df8c6759a5b46c21603d90469a564742a4f04b4dcc619", func := "loop.example/g00951/laws.FnExactChartHeight", spec := "fnExactChartHeight", apart := false, narrowed := true }
def FnExactChartHeightUptoSaid : Prop := fnExactChartHeightUptoRow.holds Try.pinned (OpenSpec.upto fnExactChartHeightSpec)

/-- 'laws.FnExactReadingError', WHERE WHAT IT READS IS OF BULK AT MOST 1048576: true; the input reads as it did. -/
def fnExactReadingErrorUptoRow : OpenClaim := { program := "yteldaadpcponfaa", sum := "5becbbc5f2e745e7a48df8c6759a5b46c21603d90469a564742a4f04b4dcc619", func := "loop.example/g00951/laws.FnExactReadingError", spec := "fnExactReadingError", apart := false, narrowed := true }
def FnExactReadingErrorUptoSaid : Prop := fnExactReadingErrorUptoRow.holds Try.pinned (OpenSpec.upto fnExactReadingErrorSpec)

/-- 'laws.FnExactGreatestModulus', WHERE WHAT IT READS IS OF BULK AT MOST 1048576: true; the input reads as it did. -/
def fnExactGreatestModulusUptoRow : OpenClaim := { program := "yteldaadpcponfaa", sum := "5becbbc5f2e745e7a48df8c6759a5b46c21603d90469a564742a4f04b4dcc619", func := "loop.example/g00951/laws.FnExactGreatestModulus", spec := "fnExactGreatestModulus", apart := false, narrowed := true }
def FnExactGreatestModulusUptoSaid : Prop := fnExactGreatestModulusUptoRow.holds Try.pinned (OpenSpec.upto fnExactGreatestModulusSpec)

/-- 'laws.FnExactChartSpan', WHERE WHAT IT READS IS OF BULK AT MOST 1048576: true; the input reads as it did. -/
def fnExactChartSpanUptoRow : OpenClaim := { program := "yteldaadpcponfaa", sum := "5becbbc5f2e745e7a48df8c6759a5b46c21603d90469a564742a4f04b4dcc619", func := "loop.example/g00951/laws.FnExactChartSpan", spec := "fnExactChartSpan", unfollowed := true, recurses := true, apart := false, narrowed := true }
def FnExactChartSpanUptoSaid : Prop := fnExactChartSpanUptoRow.holds Try.pinned (OpenSpec.upto fnExactChartSpanSpec)

/-- 'laws.FnExactScalePoints', WHERE WHAT IT READS IS OF BULK AT MOST 1048576: true; the input reads as it did. -/
def fnExactScalePointsUptoRow : OpenClaim := { program := "yteldaadpcponfaa", sum := "5becbbc5f2e745e7a48df8c6759a5b46c21603d90469a564742a4f04b4dcc619", func := "loop.example/g00951/laws.FnExactScalePoints", spec := "fnExactScalePoints", apart := false, narrowed := true }
def FnExactScalePointsUptoSaid : Prop := fnExactScalePointsUptoRow.holds Try.pinned (OpenSpec.upto fnExactScalePointsSpec)

/-- 'laws.FnExactIsRelease', WHERE WHAT IT READS IS OF BULK AT MOST 1048576: true; the input reads as it did. -/
def fnExactIsReleaseUptoRow : OpenClaim := { program := "yteldaadpcponfaa", sum := "5becbbc5f2e745e7a48df8c6759a5b46c21603d90469a564742a4f04b4dcc619", func := "loop.example/g00951/laws.FnExactIsRelease", spec := "fnExactIsRelease", apart := false, narrowed := true }
def FnExactIsReleaseUptoSaid : Prop := fnExactIsReleaseUptoRow.holds Try.pinned (OpenSpec.upto fnExactIsReleaseSpec)

/-- 'laws.FnExactIsKept', WHERE WHAT IT READS IS OF BULK AT MOST 1048576: true; the input reads as it did. -/
def fnExactIsKeptUptoRow : OpenClaim := { program := "yteldaadpcponfaa", sum := "5becbbc5f2e745e7a48df8c6759a5b46c21603d90469a564742a4f04b4dcc619", func := "loop.example/g00951/laws.FnExactIsKept", spec := "fnExactIsKept", apart := false, narrowed := true }
def FnExactIsKeptUptoSaid : Prop := fnExactIsKeptUptoRow.holds Try.pinned (OpenSpec.upto fnExactIsKeptSpec)

/-- 'laws.FnExactIsCovered', WHERE WHAT IT READS IS OF BULK AT MOST 1048576: true; the input reads as it did. -/
def fnExactIsCoveredUptoRow : OpenClaim := { program := "yteldaadpcponfaa", sum := "5becbbc5f2e745e7a48df8c6759a5b46c21603d90469a564742a4f04b4dcc619", func := "loop.example/g00951/laws.FnExactIsCovered", spec := "fnExactIsCovered", apart := false, narrowed := true }
def FnExactIsCoveredUptoSaid : Prop := fnExactIsCoveredUptoRow.holds Try.pinned (OpenSpec.upto fnExactIsCoveredSpec)

end Rows
end Go.Proofs.Yteldaadpcponfaa
