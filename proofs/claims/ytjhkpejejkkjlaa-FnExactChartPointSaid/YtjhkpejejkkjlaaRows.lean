/-
  No cell of these rows narrows 'for every input' (looked for: loops, veiled, ifaces, maps, wideKeys, modest, calm, conditions, laid).
  DERIVED. THE GIVEN ROWS OF THIS SEAT. 12 by the template 'for every input the law returns true; each argument reads behind the call as it read before'; 0 by the template 'total and deterministic' (their statements: YtjhkpejejkkjlaaTotals.lean).
  GIVEN WITH THE SEED: the statements are not yours to turn. If you find one false, say at which input.
  Laid BY PROGRAM, IN A SANDBOX (cutbox-rows.mjs): the forced cells as the released guide's own fill.sh prints them over the translation bcc57bb1d83fea67… (all of the seat's roots in one cut). By AI agents, Wed Nov 11 2026. No macro, syntax, notation, axiom, sorry.
-/
import Derived.Test.YtjhkpejejkkjlaaChecked
import GoSem.Claim
import GoSem.ClaimJoined
import GoSem.ClaimMapViews
import Derived.JoinedTies
import Derived.KernelRfl
namespace Go.Proofs.Ytjhkpejejkkjlaa
/- THE CELL 'sum', in the pinned program and in every row, IS THE sha256 OF THE DUMP (.gsa) THAT YtjhkpejejkkjlaaProg.lean LOADS. Nothing in Lean hashes anything: it is a label: what it is worth is what the hold of that sum in a sandbox is worth. -/
noncomputable def Try.pinned : Pinned := { name := "ytjhkpejejkkjlaa", sum := "bcc57bb1d83fea672f9c0da87937b6577b0603aead1e6619656ebf4dcb2c6bb5", checked := Try.checked }
namespace Rows
def none {H : Type} : Left H := { results := [], args := [] }

/-- 'laws.FnExactIsChart': WHATEVER THE INPUT: true; the input reads as it did. -/
def fnExactIsChartSpec : ChangeSpec := { name := "fnExactIsChart", fn := fun _ => fun
  | [d] => { results := [.lit (.bool true)], args := [d] }
  | _ => none }
def fnExactIsChartRow : OpenClaim := { program := "ytjhkpejejkkjlaa", sum := "bcc57bb1d83fea672f9c0da87937b6577b0603aead1e6619656ebf4dcb2c6bb5", func := "loop.example/g00951/laws.FnExactIsChart", spec := "fnExactIsChart", apart := false }
def FnExactIsChartSaid : Prop := fnExactIsChartRow.holds Try.pinned (OpenSpec.ofChange fnExactIsChartSpec)

/-- ITS FALSE NEIGHBOUR: 'it returns false'. Refute it at one input. -/
def fnExactIsChartWrong : ChangeSpec := { name := "fnExactIsChart", fn := fun _ => fun
  | [d] => { results := [.lit (.bool false)], args := [d] }
  | _ => none }
def FnExactIsChartWrongFalsely : Prop := fnExactIsChartRow.holds Try.pinned (OpenSpec.ofChange fnExactIsChartWrong)

/-- 'laws.FnExactMiddleModulus': WHATEVER THE INPUT: true; the input reads as it did. -/
def fnExactMiddleModulusSpec : ChangeSpec := { name := "fnExactMiddleModulus", fn := fun _ => fun
  | [d] => { results := [.lit (.bool true)], args := [d] }
  | _ => none }
def fnExactMiddleModulusRow : OpenClaim := { program := "ytjhkpejejkkjlaa", sum := "bcc57bb1d83fea672f9c0da87937b6577b0603aead1e6619656ebf4dcb2c6bb5", func := "loop.example/g00951/laws.FnExactMiddleModulus", spec := "fnExactMiddleModulus", apart := false }
def FnExactMiddleModulusSaid : Prop := fnExactMiddleModulusRow.holds Try.pinned (OpenSpec.ofChange fnExactMiddleModulusSpec)

/-- ITS FALSE NEIGHBOUR: 'it returns false'. Refute it at one input. -/
def fnExactMiddleModulusWrong : ChangeSpec := { name := "fnExactMiddleModulus", fn := fun _ => fun
  | [d] => { results := [.lit (.bool false)], args := [d] }
  | _ => none }
def FnExactMiddleModulusWrongFalsely : Prop := fnExactMiddleModulusRow.holds Try.pinned (OpenSpec.ofChange fnExactMiddleModulusWrong)

/-- 'laws.FnExactMiddleColumn': WHATEVER THE INPUT: true; the input reads as it did. -/
def fnExactMiddleColumnSpec : ChangeSpec := { name := "fnExactMiddleColumn", fn := fun _ => fun
  | [d] => { results := [.lit (.bool true)], args := [d] }
  | _ => none }
def fnExactMiddleColumnRow : OpenClaim := { program := "ytjhkpejejkkjlaa", sum := "bcc57bb1d83fea672f9c0da87937b6577b0603aead1e6619656ebf4dcb2c6bb5", func := "loop.example/g00951/laws.FnExactMiddleColumn", spec := "fnExactMiddleColumn", apart := false }
def FnExactMiddleColumnSaid : Prop := fnExactMiddleColumnRow.holds Try.pinned (OpenSpec.ofChange fnExactMiddleColumnSpec)

/-- ITS FALSE NEIGHBOUR: 'it returns false'. Refute it at one input. -/
def fnExactMiddleColumnWrong : ChangeSpec := { name := "fnExactMiddleColumn", fn := fun _ => fun
  | [d] => { results := [.lit (.bool false)], args := [d] }
  | _ => none }
def FnExactMiddleColumnWrongFalsely : Prop := fnExactMiddleColumnRow.holds Try.pinned (OpenSpec.ofChange fnExactMiddleColumnWrong)

/-- 'laws.FnExactProjectPoint': WHATEVER THE INPUT: true; the input reads as it did. -/
def fnExactProjectPointSpec : ChangeSpec := { name := "fnExactProjectPoint", fn := fun _ => fun
  | [d1, d2] => { results := [.lit (.bool true)], args := [d1, d2] }
  | _ => none }
def fnExactProjectPointRow : OpenClaim := { program := "ytjhkpejejkkjlaa", sum := "bcc57bb1d83fea672f9c0da87937b6577b0603aead1e6619656ebf4dcb2c6bb5", func := "loop.example/g00951/laws.FnExactProjectPoint", spec := "fnExactProjectPoint", unfollowed := true, recurses := true, apart := false }
def FnExactProjectPointSaid : Prop := fnExactProjectPointRow.holds Try.pinned (OpenSpec.ofChange fnExactProjectPointSpec)

/-- ITS FALSE NEIGHBOUR: 'it returns false'. Refute it at one input. -/
def fnExactProjectPointWrong : ChangeSpec := { name := "fnExactProjectPoint", fn := fun _ => fun
  | [d1, d2] => { results := [.lit (.bool false)], args := [d1, d2] }
  | _ => none }
def FnExactProjectPointWrongFalsely : Prop := fnExactProjectPointRow.holds Try.pinned (OpenSpec.ofChange fnExactProjectPointWrong)

/-- 'laws.FnExactBestModel': WHATEVER THE INPUT: true; the input reads as it did. -/
def fnExactBestModelSpec : ChangeSpec := { name := "fnExactBestModel", fn := fun _ => fun
  | [d1, d2] => { results := [.lit (.bool true)], args := [d1, d2] }
  | _ => none }
def fnExactBestModelRow : OpenClaim := { program := "ytjhkpejejkkjlaa", sum := "bcc57bb1d83fea672f9c0da87937b6577b0603aead1e6619656ebf4dcb2c6bb5", func := "loop.example/g00951/laws.FnExactBestModel", spec := "fnExactBestModel", unfollowed := true, recurses := true, apart := false }
def FnExactBestModelSaid : Prop := fnExactBestModelRow.holds Try.pinned (OpenSpec.ofChange fnExactBestModelSpec)

/-- ITS FALSE NEIGHBOUR: 'it returns false'. Refute it at one input. -/
def fnExactBestModelWrong : ChangeSpec := { name := "fnExactBestModel", fn := fun _ => fun
  | [d1, d2] => { results := [.lit (.bool false)], args := [d1, d2] }
  | _ => none }
def FnExactBestModelWrongFalsely : Prop := fnExactBestModelRow.holds Try.pinned (OpenSpec.ofChange fnExactBestModelWrong)

/-- 'laws.FnExactFarTests': WHATEVER THE INPUT: true; the input reads as it did. -/
def fnExactFarTestsSpec : ChangeSpec := { name := "fnExactFarTests", fn := fun _ => fun
  | [d1, d2, d3] => { results := [.lit (.bool true)], args := [d1, d2, d3] }
  | _ => none }
def fnExactFarTestsRow : OpenClaim := { program := "ytjhkpejejkkjlaa", sum := "bcc57bb1d83fea672f9c0da87937b6577b0603aead1e6619656ebf4dcb2c6bb5", func := "loop.example/g00951/laws.FnExactFarTests", spec := "fnExactFarTests", unfollowed := true, recurses := true, apart := false }
def FnExactFarTestsSaid : Prop := fnExactFarTestsRow.holds Try.pinned (OpenSpec.ofChange fnExactFarTestsSpec)

/-- ITS FALSE NEIGHBOUR: 'it returns false'. Refute it at one input. -/
def fnExactFarTestsWrong : ChangeSpec := { name := "fnExactFarTests", fn := fun _ => fun
  | [d1, d2, d3] => { results := [.lit (.bool false)], args := [d1, d2, d3] }
  | _ => none }
def FnExactFarTestsWrongFalsely : Prop := fnExactFarTestsRow.holds Try.pinned (OpenSpec.ofChange fnExactFarTestsWrong)

/-- 'laws.FnExactSafeBound': WHATEVER THE INPUT: true; the input reads as it did. -/
def fnExactSafeBoundSpec : ChangeSpec := { name := "fnExactSafeBound", fn := fun _ => fun
  | [d1, d2] => { results := [.lit (.bool true)], args := [d1, d2] }
  | _ => none }
def fnExactSafeBoundRow : OpenClaim := { program := "ytjhkpejejkkjlaa", sum := "bcc57bb1d83fea672f9c0da87937b6577b0603aead1e6619656ebf4dcb2c6bb5", func := "loop.example/g00951/laws.FnExactSafeBound", spec := "fnExactSafeBound", apart := false }
def FnExactSafeBoundSaid : Prop := fnExactSafeBoundRow.holds Try.pinned (OpenSpec.ofChange fnExactSafeBoundSpec)

/-- ITS FALSE NEIGHBOUR: 'it returns false'. Refute it at one input. -/
def fnExactSafeBoundWrong : ChangeSpec := { name := "fnExactSafeBound", fn := fun _ => fun
  | [d1, d2] => { results := [.lit (.bool false)], args := [d1, d2] }
  | _ => none }
def FnExactSafeBoundWrongFalsely : Prop := fnExactSafeBoundRow.holds Try.pinned (OpenSpec.ofChange fnExactSafeBoundWrong)

/-- 'laws.FnExactFlipChart': WHATEVER THE INPUT: true; the input reads as it did. -/
def fnExactFlipChartSpec : ChangeSpec := { name := "fnExactFlipChart", fn := fun _ => fun
  | [d] => { results := [.lit (.bool true)], args := [d] }
  | _ => none }
def fnExactFlipChartRow : OpenClaim := { program := "ytjhkpejejkkjlaa", sum := "bcc57bb1d83fea672f9c0da87937b6577b0603aead1e6619656ebf4dcb2c6bb5", func := "loop.example/g00951/laws.FnExactFlipChart", spec := "fnExactFlipChart", apart := false }
def FnExactFlipChartSaid : Prop := fnExactFlipChartRow.holds Try.pinned (OpenSpec.ofChange fnExactFlipChartSpec)

/-- ITS FALSE NEIGHBOUR: 'it returns false'. Refute it at one input. -/
def fnExactFlipChartWrong : ChangeSpec := { name := "fnExactFlipChart", fn := fun _ => fun
  | [d] => { results := [.lit (.bool false)], args := [d] }
  | _ => none }
def FnExactFlipChartWrongFalsely : Prop := fnExactFlipChartRow.holds Try.pinned (OpenSpec.ofChange fnExactFlipChartWrong)

/-- 'laws.FnExactWithModuli': WHATEVER THE INPUT: true; the input reads as it did. -/
def fnExactWithModuliSpec : ChangeSpec := { name := "fnExactWithModuli", fn := fun _ => fun
  | [d1, d2, d3] => { results := [.lit (.bool true)], args := [d1, d2, d3] }
  | _ => none }
def fnExactWithModuliRow : OpenClaim := { program := "ytjhkpejejkkjlaa", sum := "bcc57bb1d83fea672f9c0da87937b6577b0603aead1e6619656ebf4dcb2c6bb5", func := "loop.example/g00951/laws.FnExactWithModuli", spec := "fnExactWithModuli", apart := false }
def FnExactWithModuliSaid : Prop := fnExactWithModuliRow.holds Try.pinned (OpenSpec.ofChange fnExactWithModuliSpec)

/-- ITS FALSE NEIGHBOUR: 'it returns false'. Refute it at one input. -/
def fnExactWithModuliWrong : ChangeSpec := { name := "fnExactWithModuli", fn := fun _ => fun
  | [d1, d2, d3] => { results := [.lit (.bool false)], args := [d1, d2, d3] }
  | _ => none }
def FnExactWithModuliWrongFalsely : Prop := fnExactWithModuliRow.holds Try.pinned (OpenSpec.ofChange fnExactWithModuliWrong)

/-- 'laws.FnExactChartPlace': WHATEVER THE INPUT: true; the input reads as it did. -/
def fnExactChartPlaceSpec : ChangeSpec := { name := "fnExactChartPlace", fn := fun _ => fun
  | [d1, d2, d3] => { results := [.lit (.bool true)], args := [d1, d2, d3] }
  | _ => none }
def fnExactChartPlaceRow : OpenClaim := { program := "ytjhkpejejkkjlaa", sum := "bcc57bb1d83fea672f9c0da87937b6577b0603aead1e6619656ebf4dcb2c6bb5", func := "loop.example/g00951/laws.FnExactChartPlace", spec := "fnExactChartPlace", apart := false }
def FnExactChartPlaceSaid : Prop := fnExactChartPlaceRow.holds Try.pinned (OpenSpec.ofChange fnExactChartPlaceSpec)

/-- ITS FALSE NEIGHBOUR: 'it returns false'. Refute it at one input. -/
def fnExactChartPlaceWrong : ChangeSpec := { name := "fnExactChartPlace", fn := fun _ => fun
  | [d1, d2, d3] => { results := [.lit (.bool false)], args := [d1, d2, d3] }
  | _ => none }
def FnExactChartPlaceWrongFalsely : Prop := fnExactChartPlaceRow.holds Try.pinned (OpenSpec.ofChange fnExactChartPlaceWrong)

/-- 'laws.FnExactChartPoint': WHATEVER THE INPUT: true; the input reads as it did. -/
def fnExactChartPointSpec : ChangeSpec := { name := "fnExactChartPoint", fn := fun _ => fun
  | [d1, d2, d3] => { results := [.lit (.bool true)], args := [d1, d2, d3] }
  | _ => none }
def fnExactChartPointRow : OpenClaim := { program := "ytjhkpejejkkjlaa", sum := "bcc57bb1d83fea672f9c0da87937b6577b0603aead1e6619656ebf4dcb2c6bb5", func := "loop.example/g00951/laws.FnExactChartPoint", spec := "fnExactChartPoint", apart := false }
def FnExactChartPointSaid : Prop := fnExactChartPointRow.holds Try.pinned (OpenSpec.ofChange fnExactChartPointSpec)

/-- ITS FALSE NEIGHBOUR: 'it returns false'. Refute it at one input. -/
def fnExactChartPointWrong : ChangeSpec := { name := "fnExactChartPoint", fn := fun _ => fun
  | [d1, d2, d3] => { results := [.lit (.bool false)], args := [d1, d2, d3] }
  | _ => none }
def FnExactChartPointWrongFalsely : Prop := fnExactChartPointRow.holds Try.pinned (OpenSpec.ofChange fnExactChartPointWrong)

/-- 'laws.FnExactLineHeights': WHATEVER THE INPUT: true; the input reads as it did. -/
def fnExactLineHeightsSpec : ChangeSpec := { name := "fnExactLineHeights", fn := fun _ => fun
  | [d1, d2, d3] => { results := [.lit (.bool true)], args := [d1, d2, d3] }
  | _ => none }
def fnExactLineHeightsRow : OpenClaim := { program := "ytjhkpejejkkjlaa", sum := "bcc57bb1d83fea672f9c0da87937b6577b0603aead1e6619656ebf4dcb2c6bb5", func := "loop.example/g00951/laws.FnExactLineHeights", spec := "fnExactLineHeights", apart := false }
def FnExactLineHeightsSaid : Prop := fnExactLineHeightsRow.holds Try.pinned (OpenSpec.ofChange fnExactLineHeightsSpec)

/-- ITS FALSE NEIGHBOUR: 'it returns false'. Refute it at one input. -/
def fnExactLineHeightsWrong : ChangeSpec := { name := "fnExactLineHeights", fn := fun _ => fun
  | [d1, d2, d3] => { results := [.lit (.bool false)], args := [d1, d2, d3] }
  | _ => none }
def FnExactLineHeightsWrongFalsely : Prop := fnExactLineHeightsRow.holds Try.pinned (OpenSpec.ofChange fnExactLineHeightsWrong)

/- THE SECOND FORM. 'bulk': how many values and letters a reading holds, each counted each time it is reached (what is shared counts as often as it is met; a slice's spare places count too). A statement '..UptoSaid' is the law's where the arguments, and the package variables that the reading takes, are together of bulk at most 1048576: NARROWER than '..Said'. Prove '..Said' where nothing that the law and all that it calls make is longer than what came in: it says more and counts as full. Else prove '..UptoSaid'. A law counts once. -/
mutual
def uptoBulk {H : Type} : DataW H → Nat
  | .lit (.string bytes) => bytes.length + 1
  | .lit _ => 1
  | .nil => 1
  | .ptr d => uptoBulk d + 1
  | .slice elems spare => uptoBulkAll elems + uptoBulkAll spare + 1
  | .agg parts => uptoBulkAll parts + 1
  | .iface _ d => uptoBulk d + 1
  | .map entries => uptoBulkEntries entries + 1
  | .held _ => 1
def uptoBulkAll {H : Type} : List (DataW H) → Nat
  | [] => 0
  | d :: r => uptoBulk d + uptoBulkAll r
def uptoBulkEntries {H : Type} : List (Lit × DataW H) → Nat
  | [] => 0
  | x :: r => uptoBulkEntry x + uptoBulkEntries r
def uptoBulkEntry {H : Type} : Lit × DataW H → Nat
  | (.string bytes, d) => bytes.length + uptoBulk d + 1
  | (_, d) => uptoBulk d + 1
 end
def uptoSmall : (H : Type) → List (DataW H) → Bool := fun _ ds => decide (uptoBulkAll ds ≤ 1048576)
def OpenSpec.upto (s : _root_.Go.ChangeSpec) : _root_.Go.OpenSpec := { _root_.Go.OpenSpec.ofChange s with cond := some uptoSmall }

/-- 'laws.FnExactIsChart', WHERE WHAT IT READS IS OF BULK AT MOST 1048576: true; the input reads as it did. -/
def fnExactIsChartUptoRow : OpenClaim := { program := "ytjhkpejejkkjlaa", sum := "bcc57bb1d83fea672f9c0da87937b6577b0603aead1e6619656ebf4dcb2c6bb5", func := "loop.example/g00951/laws.FnExactIsChart", spec := "fnExactIsChart", apart := false, narrowed := true }
def FnExactIsChartUptoSaid : Prop := fnExactIsChartUptoRow.holds Try.pinned (OpenSpec.upto fnExactIsChartSpec)

/-- 'laws.FnExactMiddleModulus', WHERE WHAT IT READS IS OF BULK AT MOST 1048576: true; the input reads as it did. -/
def fnExactMiddleModulusUptoRow : OpenClaim := { program := "ytjhkpejejkkjlaa", sum := "bcc57bb1d83fea672f9c0da87937b6577b0603aead1e6619656ebf4dcb2c6bb5", func := "loop.example/g00951/laws.FnExactMiddleModulus", spec := "fnExactMiddleModulus", apart := false, narrowed := true }
def FnExactMiddleModulusUptoSaid : Prop := fnExactMiddleModulusUptoRow.holds Try.pinned (OpenSpec.upto fnExactMiddleModulusSpec)

/-- 'laws.FnExactMiddleColumn', WHERE WHAT IT READS IS OF BULK AT MOST 1048576: true; the input reads as it did. -/
def fnExactMiddleColumnUptoRow : OpenClaim := { program := "ytjhkpejejkkjlaa", sum := "bcc57bb1d83fea672f9c0da87937b6577b0603aead1e6619656ebf4dcb2c6bb5", func := "loop.example/g00951/laws.FnExactMiddleColumn", spec := "fnExactMiddleColumn", apart := false, narrowed := true }
def FnExactMiddleColumnUptoSaid : Prop := fnExactMiddleColumnUptoRow.holds Try.pinned (OpenSpec.upto fnExactMiddleColumnSpec)

/-- 'laws.FnExactProjectPoint', WHERE WHAT IT READS IS OF BULK AT MOST 1048576: true; the input reads as it did. -/
def fnExactProjectPointUptoRow : OpenClaim := { program := "ytjhkpejejkkjlaa", sum := "bcc57bb1d83fea672f9c0da87937b6577b0603aead1e6619656ebf4dcb2c6bb5", func := "loop.example/g00951/laws.FnExactProjectPoint", spec := "fnExactProjectPoint", unfollowed := true, recurses := true, apart := false, narrowed := true }
def FnExactProjectPointUptoSaid : Prop := fnExactProjectPointUptoRow.holds Try.pinned (OpenSpec.upto fnExactProjectPointSpec)

/-- 'laws.FnExactBestModel', WHERE WHAT IT READS IS OF BULK AT MOST 1048576: true; the input reads as it did. -/
def fnExactBestModelUptoRow : OpenClaim := { program := "ytjhkpejejkkjlaa", sum := "bcc57bb1d83fea672f9c0da87937b6577b0603aead1e6619656ebf4dcb2c6bb5", func := "loop.example/g00951/laws.FnExactBestModel", spec := "fnExactBestModel", unfollowed := true, recurses := true, apart := false, narrowed := true }
def FnExactBestModelUptoSaid : Prop := fnExactBestModelUptoRow.holds Try.pinned (OpenSpec.upto fnExactBestModelSpec)

/-- 'laws.FnExactFarTests', WHERE WHAT IT READS IS OF BULK AT MOST 1048576: true; the input reads as it did. -/
def fnExactFarTestsUptoRow : OpenClaim := { program := "ytjhkpejejkkjlaa", sum := "bcc57bb1d83fea672f9c0da87937b6577b0603aead1e6619656ebf4dcb2c6bb5", func := "loop.example/g00951/laws.FnExactFarTests", spec := "fnExactFarTests", unfollowed := true, recurses := true, apart := false, narrowed := true }
def FnExactFarTestsUptoSaid : Prop := fnExactFarTestsUptoRow.holds Try.pinned (OpenSpec.upto fnExactFarTestsSpec)

/-- 'laws.FnExactSafeBound', WHERE WHAT IT READS IS OF BULK AT MOST 1048576: true; the input reads as it did. -/
def fnExactSafeBoundUptoRow : OpenClaim := { program := "ytjhkpejejkkjlaa", sum := "bcc57bb1d83fea672f9c0da87937b6577b0603aead1e6619656ebf4dcb2c6bb5", func := "loop.example/g00951/laws.FnExactSafeBound", spec := "fnExactSafeBound", apart := false, narrowed := true }
def FnExactSafeBoundUptoSaid : Prop := fnExactSafeBoundUptoRow.holds Try.pinned (OpenSpec.upto fnExactSafeBoundSpec)

/-- 'laws.FnExactFlipChart', WHERE WHAT IT READS IS OF BULK AT MOST 1048576: true; the input reads as it did. -/
def fnExactFlipChartUptoRow : OpenClaim := { program := "ytjhkpejejkkjlaa", sum := "bcc57bb1d83fea672f9c0da87937b6577b0603aead1e6619656ebf4dcb2c6bb5", func := "loop.example/g00951/laws.FnExactFlipChart", spec := "fnExactFlipChart", apart := false, narrowed := true }
def FnExactFlipChartUptoSaid : Prop := fnExactFlipChartUptoRow.holds Try.pinned (OpenSpec.upto fnExactFlipChartSpec)

/-- 'laws.FnExactWithModuli', WHERE WHAT IT READS IS OF BULK AT MOST 1048576: true; the input reads as it did. -/
def fnExactWithModuliUptoRow : OpenClaim := { program := "ytjhkpejejkkjlaa", sum := "bcc57bb1d83fea672f9c0da87937b6577b0603aead1e6619656ebf4dcb2c6bb5", func := "loop.example/g00951/laws.FnExactWithModuli", spec := "fnExactWithModuli", apart := false, narrowed := true }
def FnExactWithModuliUptoSaid : Prop := fnExactWithModuliUptoRow.holds Try.pinned (OpenSpec.upto fnExactWithModuliSpec)

/-- 'laws.FnExactChartPlace', WHERE WHAT IT READS IS OF BULK AT MOST 1048576: true; the input reads as it did. -/
def fnExactChartPlaceUptoRow : OpenClaim := { program := "ytjhkpejejkkjlaa", sum := "bcc57bb1d83fea672f9c0da87937b6577b0603aead1e6619656ebf4dcb2c6bb5", func := "loop.example/g00951/laws.FnExactChartPlace", spec := "fnExactChartPlace", apart := false, narrowed := true }
def FnExactChartPlaceUptoSaid : Prop := fnExactChartPlaceUptoRow.holds Try.pinned (OpenSpec.upto fnExactChartPlaceSpec)

/-- 'laws.FnExactChartPoint', WHERE WHAT IT READS IS OF BULK AT MOST 1048576: true; the input reads as it did. -/
def fnExactChartPointUptoRow : OpenClaim := { program := "ytjhkpejejkkjlaa", sum := "bcc57bb1d83fea672f9c0da87937b6577b0603aead1e6619656ebf4dcb2c6bb5", func := "loop.example/g00951/laws.FnExactChartPoint", spec := "fnExactChartPoint", apart := false, narrowed := true }
def FnExactChartPointUptoSaid : Prop := fnExactChartPointUptoRow.holds Try.pinned (OpenSpec.upto fnExactChartPointSpec)

/-- 'laws.FnExactLineHeights', WHERE WHAT IT READS IS OF BULK AT MOST 1048576: true; the input reads as it did. -/
def fnExactLineHeightsUptoRow : OpenClaim := { program := "ytjhkpejejkkjlaa", sum := "bcc57bb1d83fea672f9c0da87937b6577b0603aead1e6619656ebf4dcb2c6bb5", func := "loop.example/g00951/laws.FnExactLineHeights", spec := "fnExactLineHeights", apart := false, narrowed := true }
def FnExactLineHeightsUptoSaid : Prop := fnExactLineHeightsUptoRow.holds Try.pinned (OpenSpec.upto fnExactLineHeightsSpec)

end Rows
end Go.Proofs.Ytjhkpejejkkjlaa
