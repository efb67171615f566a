/-
  No cell of these rows narrows 'for every input' (looked for: loops, veiled, ifaces, maps, wideKeys, modest, calm, conditions, laid).
  DERIVED. THE GIVEN ROWS OF THIS SEAT. 12 by the template 'for every input the law returns true; each argument reads behind the call as it read before'; 0 by the template 'total and deterministic' (their statements: YteofdedbignhaaaTotals.lean).
  GIVEN WITH THE SEED: the statements are not yours to turn. If you find one false, say at which input.
  Laid BY PROGRAM, IN A SANDBOX (cutbox-rows.mjs): the forced cells as the released guide's own fill.sh prints them over the translation 5cddab6d0fe58739… (all of the seat's roots in one cut). By AI agents, Wed Nov 11 2026. No macro, syntax, notation, axiom, sorry.
-/
import Derived.Test.YteofdedbignhaaaChecked
import GoSem.Claim
import GoSem.ClaimJoined
import GoSem.ClaimMapViews
import Derived.JoinedTies
import Derived.KernelRfl
namespace Go.Proofs.Yteofdedbignhaaa
/- THE CELL 'sum', in the pinned program and in every row, IS THE sha256 OF THE DUMP (.gsa) THAT YteofdedbignhaaaProg.lean LOADS. Nothing in Lean hashes anything: it is a label: what it is worth is what the hold of that sum in a sandbox is worth. -/
noncomputable def Try.pinned : Pinned := { name := "yteofdedbignhaaa", sum := "5cddab6d0fe587396a741025d9e6865f95129c49094f0ec766011900eb58c62f", checked := Try.checked }
namespace Rows
def none {H : Type} : Left H := { results := [], args := [] }

/-- 'laws.FnExactIsModel': WHATEVER THE INPUT: true; the input reads as it did. -/
def fnExactIsModelSpec : ChangeSpec := { name := "fnExactIsModel", fn := fun _ => fun
  | [d] => { results := [.lit (.bool true)], args := [d] }
  | _ => none }
def fnExactIsModelRow : OpenClaim := { program := "yteofdedbignhaaa", sum := "5cddab6d0fe587396a741025d9e6865f95129c49094f0ec766011900eb58c62f", func := "loop.example/g00951/laws.FnExactIsModel", spec := "fnExactIsModel", apart := false }
def FnExactIsModelSaid : Prop := fnExactIsModelRow.holds Try.pinned (OpenSpec.ofChange fnExactIsModelSpec)

/-- ITS FALSE NEIGHBOUR: 'it returns false'. Refute it at one input. -/
def fnExactIsModelWrong : ChangeSpec := { name := "fnExactIsModel", fn := fun _ => fun
  | [d] => { results := [.lit (.bool false)], args := [d] }
  | _ => none }
def FnExactIsModelWrongFalsely : Prop := fnExactIsModelRow.holds Try.pinned (OpenSpec.ofChange fnExactIsModelWrong)

/-- 'laws.FnExactSeenAt': WHATEVER THE INPUT: true; the input reads as it did. -/
def fnExactSeenAtSpec : ChangeSpec := { name := "fnExactSeenAt", fn := fun _ => fun
  | [d1, d2] => { results := [.lit (.bool true)], args := [d1, d2] }
  | _ => none }
def fnExactSeenAtRow : OpenClaim := { program := "yteofdedbignhaaa", sum := "5cddab6d0fe587396a741025d9e6865f95129c49094f0ec766011900eb58c62f", func := "loop.example/g00951/laws.FnExactSeenAt", spec := "fnExactSeenAt", apart := false }
def FnExactSeenAtSaid : Prop := fnExactSeenAtRow.holds Try.pinned (OpenSpec.ofChange fnExactSeenAtSpec)

/-- ITS FALSE NEIGHBOUR: 'it returns false'. Refute it at one input. -/
def fnExactSeenAtWrong : ChangeSpec := { name := "fnExactSeenAt", fn := fun _ => fun
  | [d1, d2] => { results := [.lit (.bool false)], args := [d1, d2] }
  | _ => none }
def FnExactSeenAtWrongFalsely : Prop := fnExactSeenAtRow.holds Try.pinned (OpenSpec.ofChange fnExactSeenAtWrong)

/-- 'laws.FnExactIsProjection': WHATEVER THE INPUT: true; the input reads as it did. -/
def fnExactIsProjectionSpec : ChangeSpec := { name := "fnExactIsProjection", fn := fun _ => fun
  | [d] => { results := [.lit (.bool true)], args := [d] }
  | _ => none }
def fnExactIsProjectionRow : OpenClaim := { program := "yteofdedbignhaaa", sum := "5cddab6d0fe587396a741025d9e6865f95129c49094f0ec766011900eb58c62f", func := "loop.example/g00951/laws.FnExactIsProjection", spec := "fnExactIsProjection", unfollowed := true, recurses := true, apart := false }
def FnExactIsProjectionSaid : Prop := fnExactIsProjectionRow.holds Try.pinned (OpenSpec.ofChange fnExactIsProjectionSpec)

/-- ITS FALSE NEIGHBOUR: 'it returns false'. Refute it at one input. -/
def fnExactIsProjectionWrong : ChangeSpec := { name := "fnExactIsProjection", fn := fun _ => fun
  | [d] => { results := [.lit (.bool false)], args := [d] }
  | _ => none }
def FnExactIsProjectionWrongFalsely : Prop := fnExactIsProjectionRow.holds Try.pinned (OpenSpec.ofChange fnExactIsProjectionWrong)

/-- 'laws.FnExactMakeRational': WHATEVER THE INPUT: true; the input reads as it did. -/
def fnExactMakeRationalSpec : ChangeSpec := { name := "fnExactMakeRational", fn := fun _ => fun
  | [d1, d2, d3] => { results := [.lit (.bool true)], args := [d1, d2, d3] }
  | _ => none }
def fnExactMakeRationalRow : OpenClaim := { program := "yteofdedbignhaaa", sum := "5cddab6d0fe587396a741025d9e6865f95129c49094f0ec766011900eb58c62f", func := "loop.example/g00951/laws.FnExactMakeRational", spec := "fnExactMakeRational", apart := false }
def FnExactMakeRationalSaid : Prop := fnExactMakeRationalRow.holds Try.pinned (OpenSpec.ofChange fnExactMakeRationalSpec)

/-- ITS FALSE NEIGHBOUR: 'it returns false'. Refute it at one input. -/
def fnExactMakeRationalWrong : ChangeSpec := { name := "fnExactMakeRational", fn := fun _ => fun
  | [d1, d2, d3] => { results := [.lit (.bool false)], args := [d1, d2, d3] }
  | _ => none }
def FnExactMakeRationalWrongFalsely : Prop := fnExactMakeRationalRow.holds Try.pinned (OpenSpec.ofChange fnExactMakeRationalWrong)

/-- 'laws.FnExactCorrectPlace': WHATEVER THE INPUT: true; the input reads as it did. -/
def fnExactCorrectPlaceSpec : ChangeSpec := { name := "fnExactCorrectPlace", fn := fun _ => fun
  | [d1, d2] => { results := [.lit (.bool true)], args := [d1, d2] }
  | _ => none }
def fnExactCorrectPlaceRow : OpenClaim := { program := "yteofdedbignhaaa", sum := "5cddab6d0fe587396a741025d9e6865f95129c49094f0ec766011900eb58c62f", func := "loop.example/g00951/laws.FnExactCorrectPlace", spec := "fnExactCorrectPlace", apart := false }
def FnExactCorrectPlaceSaid : Prop := fnExactCorrectPlaceRow.holds Try.pinned (OpenSpec.ofChange fnExactCorrectPlaceSpec)

/-- ITS FALSE NEIGHBOUR: 'it returns false'. Refute it at one input. -/
def fnExactCorrectPlaceWrong : ChangeSpec := { name := "fnExactCorrectPlace", fn := fun _ => fun
  | [d1, d2] => { results := [.lit (.bool false)], args := [d1, d2] }
  | _ => none }
def FnExactCorrectPlaceWrongFalsely : Prop := fnExactCorrectPlaceRow.holds Try.pinned (OpenSpec.ofChange fnExactCorrectPlaceWrong)

/-- 'laws.FnExactFixedByAll': WHATEVER THE INPUT: true; the input reads as it did. -/
def fnExactFixedByAllSpec : ChangeSpec := { name := "fnExactFixedByAll", fn := fun _ => fun
  | [d] => { results := [.lit (.bool true)], args := [d] }
  | _ => none }
def fnExactFixedByAllRow : OpenClaim := { program := "yteofdedbignhaaa", sum := "5cddab6d0fe587396a741025d9e6865f95129c49094f0ec766011900eb58c62f", func := "loop.example/g00951/laws.FnExactFixedByAll", spec := "fnExactFixedByAll", unfollowed := true, recurses := true, apart := false }
def FnExactFixedByAllSaid : Prop := fnExactFixedByAllRow.holds Try.pinned (OpenSpec.ofChange fnExactFixedByAllSpec)

/-- ITS FALSE NEIGHBOUR: 'it returns false'. Refute it at one input. -/
def fnExactFixedByAllWrong : ChangeSpec := { name := "fnExactFixedByAll", fn := fun _ => fun
  | [d] => { results := [.lit (.bool false)], args := [d] }
  | _ => none }
def FnExactFixedByAllWrongFalsely : Prop := fnExactFixedByAllRow.holds Try.pinned (OpenSpec.ofChange fnExactFixedByAllWrong)

/-- 'laws.FnExactRationalsInLine': WHATEVER THE INPUT: true; the input reads as it did. -/
def fnExactRationalsInLineSpec : ChangeSpec := { name := "fnExactRationalsInLine", fn := fun _ => fun
  | [d1, d2, d3] => { results := [.lit (.bool true)], args := [d1, d2, d3] }
  | _ => none }
def fnExactRationalsInLineRow : OpenClaim := { program := "yteofdedbignhaaa", sum := "5cddab6d0fe587396a741025d9e6865f95129c49094f0ec766011900eb58c62f", func := "loop.example/g00951/laws.FnExactRationalsInLine", spec := "fnExactRationalsInLine", unfollowed := true, recurses := true, apart := false }
def FnExactRationalsInLineSaid : Prop := fnExactRationalsInLineRow.holds Try.pinned (OpenSpec.ofChange fnExactRationalsInLineSpec)

/-- ITS FALSE NEIGHBOUR: 'it returns false'. Refute it at one input. -/
def fnExactRationalsInLineWrong : ChangeSpec := { name := "fnExactRationalsInLine", fn := fun _ => fun
  | [d1, d2, d3] => { results := [.lit (.bool false)], args := [d1, d2, d3] }
  | _ => none }
def FnExactRationalsInLineWrongFalsely : Prop := fnExactRationalsInLineRow.holds Try.pinned (OpenSpec.ofChange fnExactRationalsInLineWrong)

/-- 'laws.FnExactRoundPoint': WHATEVER THE INPUT: true; the input reads as it did. -/
def fnExactRoundPointSpec : ChangeSpec := { name := "fnExactRoundPoint", fn := fun _ => fun
  | [d] => { results := [.lit (.bool true)], args := [d] }
  | _ => none }
def fnExactRoundPointRow : OpenClaim := { program := "yteofdedbignhaaa", sum := "5cddab6d0fe587396a741025d9e6865f95129c49094f0ec766011900eb58c62f", func := "loop.example/g00951/laws.FnExactRoundPoint", spec := "fnExactRoundPoint", apart := false }
def FnExactRoundPointSaid : Prop := fnExactRoundPointRow.holds Try.pinned (OpenSpec.ofChange fnExactRoundPointSpec)

/-- ITS FALSE NEIGHBOUR: 'it returns false'. Refute it at one input. -/
def fnExactRoundPointWrong : ChangeSpec := { name := "fnExactRoundPoint", fn := fun _ => fun
  | [d] => { results := [.lit (.bool false)], args := [d] }
  | _ => none }
def FnExactRoundPointWrongFalsely : Prop := fnExactRoundPointRow.holds Try.pinned (OpenSpec.ofChange fnExactRoundPointWrong)

/-- 'laws.FnExactFitOf': WHATEVER THE INPUT: true; the input reads as it did. -/
def fnExactFitOfSpec : ChangeSpec := { name := "fnExactFitOf", fn := fun _ => fun
  | [d1, d2] => { results := [.lit (.bool true)], args := [d1, d2] }
  | _ => none }
def fnExactFitOfRow : OpenClaim := { program := "yteofdedbignhaaa", sum := "5cddab6d0fe587396a741025d9e6865f95129c49094f0ec766011900eb58c62f", func := "loop.example/g00951/laws.FnExactFitOf", spec := "fnExactFitOf", unfollowed := true, recurses := true, apart := false }
def FnExactFitOfSaid : Prop := fnExactFitOfRow.holds Try.pinned (OpenSpec.ofChange fnExactFitOfSpec)

/-- ITS FALSE NEIGHBOUR: 'it returns false'. Refute it at one input. -/
def fnExactFitOfWrong : ChangeSpec := { name := "fnExactFitOf", fn := fun _ => fun
  | [d1, d2] => { results := [.lit (.bool false)], args := [d1, d2] }
  | _ => none }
def FnExactFitOfWrongFalsely : Prop := fnExactFitOfRow.holds Try.pinned (OpenSpec.ofChange fnExactFitOfWrong)

/-- 'laws.FnExactComposeProjections': WHATEVER THE INPUT: true; the input reads as it did. -/
def fnExactComposeProjectionsSpec : ChangeSpec := { name := "fnExactComposeProjections", fn := fun _ => fun
  | [d1, d2] => { results := [.lit (.bool true)], args := [d1, d2] }
  | _ => none }
def fnExactComposeProjectionsRow : OpenClaim := { program := "yteofdedbignhaaa", sum := "5cddab6d0fe587396a741025d9e6865f95129c49094f0ec766011900eb58c62f", func := "loop.example/g00951/laws.FnExactComposeProjections", spec := "fnExactComposeProjections", unfollowed := true, recurses := true, apart := false }
def FnExactComposeProjectionsSaid : Prop := fnExactComposeProjectionsRow.holds Try.pinned (OpenSpec.ofChange fnExactComposeProjectionsSpec)

/-- ITS FALSE NEIGHBOUR: 'it returns false'. Refute it at one input. -/
def fnExactComposeProjectionsWrong : ChangeSpec := { name := "fnExactComposeProjections", fn := fun _ => fun
  | [d1, d2] => { results := [.lit (.bool false)], args := [d1, d2] }
  | _ => none }
def FnExactComposeProjectionsWrongFalsely : Prop := fnExactComposeProjectionsRow.holds Try.pinned (OpenSpec.ofChange fnExactComposeProjectionsWrong)

/-- 'laws.FnExactInverseProjection': WHATEVER THE INPUT: true; the input reads as it did. -/
def fnExactInverseProjectionSpec : ChangeSpec := { name := "fnExactInverseProjection", fn := fun _ => fun
  | [d] => { results := [.lit (.bool true)], args := [d] }
  | _ => none }
def fnExactInverseProjectionRow : OpenClaim := { program := "yteofdedbignhaaa", sum := "5cddab6d0fe587396a741025d9e6865f95129c49094f0ec766011900eb58c62f", func := "loop.example/g00951/laws.FnExactInverseProjection", spec := "fnExactInverseProjection", unfollowed := true, recurses := true, apart := false }
def FnExactInverseProjectionSaid : Prop := fnExactInverseProjectionRow.holds Try.pinned (OpenSpec.ofChange fnExactInverseProjectionSpec)

/-- ITS FALSE NEIGHBOUR: 'it returns false'. Refute it at one input. -/
def fnExactInverseProjectionWrong : ChangeSpec := { name := "fnExactInverseProjection", fn := fun _ => fun
  | [d] => { results := [.lit (.bool false)], args := [d] }
  | _ => none }
def FnExactInverseProjectionWrongFalsely : Prop := fnExactInverseProjectionRow.holds Try.pinned (OpenSpec.ofChange fnExactInverseProjectionWrong)

/-- 'laws.FnExactBestShift': WHATEVER THE INPUT: true; the input reads as it did. -/
def fnExactBestShiftSpec : ChangeSpec := { name := "fnExactBestShift", fn := fun _ => fun
  | [d1, d2] => { results := [.lit (.bool true)], args := [d1, d2] }
  | _ => none }
def fnExactBestShiftRow : OpenClaim := { program := "yteofdedbignhaaa", sum := "5cddab6d0fe587396a741025d9e6865f95129c49094f0ec766011900eb58c62f", func := "loop.example/g00951/laws.FnExactBestShift", spec := "fnExactBestShift", unfollowed := true, recurses := true, apart := false }
def FnExactBestShiftSaid : Prop := fnExactBestShiftRow.holds Try.pinned (OpenSpec.ofChange fnExactBestShiftSpec)

/-- ITS FALSE NEIGHBOUR: 'it returns false'. Refute it at one input. -/
def fnExactBestShiftWrong : ChangeSpec := { name := "fnExactBestShift", fn := fun _ => fun
  | [d1, d2] => { results := [.lit (.bool false)], args := [d1, d2] }
  | _ => none }
def FnExactBestShiftWrongFalsely : Prop := fnExactBestShiftRow.holds Try.pinned (OpenSpec.ofChange fnExactBestShiftWrong)

/- THE SECOND FORM. 'bulk': how many values and letters a reading holds, each counted each time it is reached (what is shared counts as often as it is met; a slice's spare places count too). A statement '..UptoSaid' is the law's where the arguments, and the package variables that the reading takes, are together of bulk at most 1048576: NARROWER than '..Said'. Prove '..Said' where nothing that the law and all that it calls make is longer than what came in: it says more and counts as full. Else prove '..UptoSaid'. A law counts once. -/
mutual
def uptoBulk {H : Type} : DataW H → Nat
  | .lit (.string bytes) => bytes.length + 1
  | .lit _ => 1
  | .nil => 1
  | .ptr d => uptoBulk d + 1
  | .slice elems spare => uptoBulkAll elems + uptoBulkAll spare + 1
  | .agg parts => uptoBulkAll parts + 1
  | .iface _ d => uptoBulk d + 1
  | .map entries => uptoBulkEntries entries + 1
  | .held _ => 1
def uptoBulkAll {H : Type} : List (DataW H) → Nat
  | [] => 0
  | d :: r => uptoBulk d + uptoBulkAll r
def uptoBulkEntries {H : Type} : List (Lit × DataW H) → Nat
  | [] => 0
  | x :: r => uptoBulkEntry x + uptoBulkEntries r
def uptoBulkEntry {H : Type} : Lit × DataW H → Nat
  | (.string bytes, d) => bytes.length + uptoBulk d + 1
  | (_, d) => uptoBulk d + 1
 end
def uptoSmall : (H : Type) → List (DataW H) → Bool := fun _ ds => decide (uptoBulkAll ds ≤ 1048576)
def OpenSpec.upto (s : _root_.Go.ChangeSpec) : _root_.Go.OpenSpec := { _root_.Go.OpenSpec.ofChange s with cond := some uptoSmall }

/-- 'laws.FnExactIsModel', WHERE WHAT IT READS IS OF BULK AT MOST 1048576: true; the input reads as it did. -/
def fnExactIsModelUptoRow : OpenClaim := { program := "yteofdedbignhaaa", sum := "5cddab6d0fe587396a741025d9e6865f95129c49094f0ec766011900eb58c62f", func := "loop.example/g00951/laws.FnExactIsModel", spec := "fnExactIsModel", apart := false, narrowed := true }
def FnExactIsModelUptoSaid : Prop := fnExactIsModelUptoRow.holds Try.pinned (OpenSpec.upto fnExactIsModelSpec)

/-- 'laws.FnExactSeenAt', WHERE WHAT IT READS IS OF BULK AT MOST 1048576: true; the input reads as it did. -/
def fnExactSeenAtUptoRow : OpenClaim := { program := "yteofdedbignhaaa", sum := "5cddab6d0fe587396a741025d9e6865f95129c49094f0ec766011900eb58c62f", func := "loop.example/g00951/laws.FnExactSeenAt", spec := "fnExactSeenAt", apart := false, narrowed := true }
def FnExactSeenAtUptoSaid : Prop := fnExactSeenAtUptoRow.holds Try.pinned (OpenSpec.upto fnExactSeenAtSpec)

/-- 'laws.FnExactIsProjection', WHERE WHAT IT READS IS OF BULK AT MOST 1048576: true; the input reads as it did. -/
def fnExactIsProjectionUptoRow : OpenClaim := { program := "yteofdedbignhaaa", sum := "5cddab6d0fe587396a741025d9e6865f95129c49094f0ec766011900eb58c62f", func := "loop.example/g00951/laws.FnExactIsProjection", spec := "fnExactIsProjection", unfollowed := true, recurses := true, apart := false, narrowed := true }
def FnExactIsProjectionUptoSaid : Prop := fnExactIsProjectionUptoRow.holds Try.pinned (OpenSpec.upto fnExactIsProjectionSpec)

/-- 'laws.FnExactMakeRational', WHERE WHAT IT READS IS OF BULK AT MOST 1048576: true; the input reads as it did. -/
def fnExactMakeRationalUptoRow : OpenClaim := { program := "yteofdedbignhaaa", sum := "5cddab6d0fe587396a741025d9e6865f95129c49094f0ec766011900eb58c62f", func := "loop.example/g00951/laws.FnExactMakeRational", spec := "fnExactMakeRational", apart := false, narrowed := true }
def FnExactMakeRationalUptoSaid : Prop := fnExactMakeRationalUptoRow.holds Try.pinned (OpenSpec.upto fnExactMakeRationalSpec)

/-- 'laws.FnExactCorrectPlace', WHERE WHAT IT READS IS OF BULK AT MOST 1048576: true; the input reads as it did. -/
def fnExactCorrectPlaceUptoRow : OpenClaim := { program := "yteofdedbignhaaa", sum := "5cddab6d0fe587396a741025d9e6865f95129c49094f0ec766011900eb58c62f", func := "loop.example/g00951/laws.FnExactCorrectPlace", spec := "fnExactCorrectPlace", apart := false, narrowed := true }
def FnExactCorrectPlaceUptoSaid : Prop := fnExactCorrectPlaceUptoRow.holds Try.pinned (OpenSpec.upto fnExactCorrectPlaceSpec)

/-- 'laws.FnExactFixedByAll', WHERE WHAT IT READS IS OF BULK AT MOST 1048576: true; the input reads as it did. -/
def fnExactFixedByAllUptoRow : OpenClaim := { program := "yteofdedbignhaaa", sum := "5cddab6d0fe587396a741025d9e6865f95129c49094f0ec766011900eb58c62f", func := "loop.example/g00951/laws.FnExactFixedByAll", spec := "fnExactFixedByAll", unfollowed := true, recurses := true, apart := false, narrowed := true }
def FnExactFixedByAllUptoSaid : Prop := fnExactFixedByAllUptoRow.holds Try.pinned (OpenSpec.upto fnExactFixedByAllSpec)

/-- 'laws.FnExactRationalsInLine', WHERE WHAT IT READS IS OF BULK AT MOST 1048576: true; the input reads as it did. -/
def fnExactRationalsInLineUptoRow : OpenClaim := { program := "yteofdedbignhaaa", sum := "5cddab6d0fe587396a741025d9e6865f95129c49094f0ec766011900eb58c62f", func := "loop.example/g00951/laws.FnExactRationalsInLine", spec := "fnExactRationalsInLine", unfollowed := true, recurses := true, apart := false, narrowed := true }
def FnExactRationalsInLineUptoSaid : Prop := fnExactRationalsInLineUptoRow.holds Try.pinned (OpenSpec.upto fnExactRationalsInLineSpec)

/-- 'laws.FnExactRoundPoint', WHERE WHAT IT READS IS OF BULK AT MOST 1048576: true; the input reads as it did. -/
def fnExactRoundPointUptoRow : OpenClaim := { program := "yteofdedbignhaaa", sum := "5cddab6d0fe587396a741025d9e6865f95129c49094f0ec766011900eb58c62f", func := "loop.example/g00951/laws.FnExactRoundPoint", spec := "fnExactRoundPoint", apart := false, narrowed := true }
def FnExactRoundPointUptoSaid : Prop := fnExactRoundPointUptoRow.holds Try.pinned (OpenSpec.upto fnExactRoundPointSpec)

/-- 'laws.FnExactFitOf', WHERE WHAT IT READS IS OF BULK AT MOST 1048576: true; the input reads as it did. -/
def fnExactFitOfUptoRow : OpenClaim := { program := "yteofdedbignhaaa", sum := "5cddab6d0fe587396a741025d9e6865f95129c49094f0ec766011900eb58c62f", func := "loop.example/g00951/laws.FnExactFitOf", spec := "fnExactFitOf", unfollowed := true, recurses := true, apart := false, narrowed := true }
def FnExactFitOfUptoSaid : Prop := fnExactFitOfUptoRow.holds Try.pinned (OpenSpec.upto fnExactFitOfSpec)

/-- 'laws.FnExactComposeProjections', WHERE WHAT IT READS IS OF BULK AT MOST 1048576: true; the input reads as it did. -/
def fnExactComposeProjectionsUptoRow : OpenClaim := { program := "yteofdedbignhaaa", sum := "5cddab6d0fe587396a741025d9e6865f95129c49094f0ec766011900eb58c62f", func := "loop.example/g00951/laws.FnExactComposeProjections", spec := "fnExactComposeProjections", unfollowed := true, recurses := true, apart := false, narrowed := true }
def FnExactComposeProjectionsUptoSaid : Prop := fnExactComposeProjectionsUptoRow.holds Try.pinned (OpenSpec.upto fnExactComposeProjectionsSpec)

/-- 'laws.FnExactInverseProjection', WHERE WHAT IT READS IS OF BULK AT MOST 1048576: true; the input reads as it did. -/
def fnExactInverseProjectionUptoRow : OpenClaim := { program := "yteofdedbignhaaa", sum := "5cddab6d0fe587396a741025d9e6865f95129c49094f0ec766011900eb58c62f", func := "loop.example/g00951/laws.FnExactInverseProjection", spec := "fnExactInverseProjection", unfollowed := true, recurses := true, apart := false, narrowed := true }
def FnExactInverseProjectionUptoSaid : Prop := fnExactInverseProjectionUptoRow.holds Try.pinned (OpenSpec.upto fnExactInverseProjectionSpec)

/-- 'laws.FnExactBestShift', WHERE WHAT IT READS IS OF BULK AT MOST 1048576: true; the input reads as it did. -/
def fnExactBestShiftUptoRow : OpenClaim := { program := "yteofdedbignhaaa", sum := "5cddab6d0fe587396a741025d9e6865f95129c49094f0ec766011900eb58c62f", func := "loop.example/g00951/laws.FnExactBestShift", spec := "fnExactBestShift", unfollowed := true, recurses := true, apart := false, narrowed := true }
def FnExactBestShiftUptoSaid : Prop := fnExactBestShiftUptoRow.holds Try.pinned (OpenSpec.upto fnExactBestShiftSpec)

end Rows
end Go.Proofs.Yteofdedbignhaaa
