/-
  No cell of these rows narrows 'for every input' (looked for: loops, veiled, ifaces, maps, wideKeys, modest, calm, conditions, laid).
  DERIVED. THE GIVEN ROWS OF THIS SEAT. 6 by the template 'for every input the law returns true; each argument reads behind the call as it read before'; 0 by the template 'total and deterministic' (their statements: YthfphjbaglgacaaTotals.lean).
  GIVEN WITH THE SEED: the statements are not yours to turn. If you find one false, say at which input.
  Laid BY PROGRAM, IN A SANDBOX (cutbox-rows.mjs): the forced cells as the released guide's own fill.sh prints them over the translation c995f297925b5fd2… (all of the seat's roots in one cut). By AI agents, Wed Nov 11 2026. No macro, syntax, notation, axiom, sorry.
-/
import Derived.Test.YthfphjbaglgacaaChecked
import GoSem.Claim
import GoSem.ClaimJoined
import GoSem.ClaimMapViews
import Derived.JoinedTies
import Derived.KernelRfl
namespace Go.Proofs.Ythfphjbaglgacaa
/- THE CELL 'sum', in the pinned program and in every row, IS THE sha256 OF THE DUMP (.gsa) THAT YthfphjbaglgacaaProg.lean LOADS. Nothing in Lean hashes anything: it is a label: what it is worth is what the hold of that sum in a sandbox is worth. -/
noncomputable def Try.pinned : Pinned := { name := "ythfphjbaglgacaa", sum := "c995f297925b5fd2f4a382585afc174709c726e1696fa5aff99a3e0365fe21e9", checked := Try.checked }
namespace Rows
def none {H : Type} : Left H := { results := [], args := [] }

/-- 'laws.FnWear': WHATEVER THE INPUT: true; the input reads as it did. -/
def fnWearSpec : ChangeSpec := { name := "fnWear", fn := fun _ => fun
  | [d] => { results := [.lit (.bool true)], args := [d] }
  | _ => none }
def fnWearRow : OpenClaim := { program := "ythfphjbaglgacaa", sum := "c995f297925b5fd2f4a382585afc174709c726e1696fa5aff99a3e0365fe21e9", func := "loop.example/g00951/laws.FnWear", spec := "fnWear", unfollowed := true, recurses := true, apart := false }
def FnWearSaid : Prop := fnWearRow.holds Try.pinned (OpenSpec.ofChange fnWearSpec)

/-- ITS FALSE NEIGHBOUR: 'it returns false'. Refute it at one input. -/
def fnWearWrong : ChangeSpec := { name := "fnWear", fn := fun _ => fun
  | [d] => { results := [.lit (.bool false)], args := [d] }
  | _ => none }
def FnWearWrongFalsely : Prop := fnWearRow.holds Try.pinned (OpenSpec.ofChange fnWearWrong)

/-- 'laws.FnProjections': WHATEVER THE INPUT: true; the input reads as it did. -/
def fnProjectionsSpec : ChangeSpec := { name := "fnProjections", fn := fun _ => fun
  | [d] => { results := [.lit (.bool true)], args := [d] }
  | _ => none }
def fnProjectionsRow : OpenClaim := { program := "ythfphjbaglgacaa", sum := "c995f297925b5fd2f4a382585afc174709c726e1696fa5aff99a3e0365fe21e9", func := "loop.example/g00951/laws.FnProjections", spec := "fnProjections", unfollowed := true, recurses := true, apart := false }
def FnProjectionsSaid : Prop := fnProjectionsRow.holds Try.pinned (OpenSpec.ofChange fnProjectionsSpec)

/-- ITS FALSE NEIGHBOUR: 'it returns false'. Refute it at one input. -/
def fnProjectionsWrong : ChangeSpec := { name := "fnProjections", fn := fun _ => fun
  | [d] => { results := [.lit (.bool false)], args := [d] }
  | _ => none }
def FnProjectionsWrongFalsely : Prop := fnProjectionsRow.holds Try.pinned (OpenSpec.ofChange fnProjectionsWrong)

/-- 'laws.FnComposed': WHATEVER THE INPUT: true; the input reads as it did. -/
def fnComposedSpec : ChangeSpec := { name := "fnComposed", fn := fun _ => fun
  | [d] => { results := [.lit (.bool true)], args := [d] }
  | _ => none }
def fnComposedRow : OpenClaim := { program := "ythfphjbaglgacaa", sum := "c995f297925b5fd2f4a382585afc174709c726e1696fa5aff99a3e0365fe21e9", func := "loop.example/g00951/laws.FnComposed", spec := "fnComposed", unfollowed := true, recurses := true, apart := false }
def FnComposedSaid : Prop := fnComposedRow.holds Try.pinned (OpenSpec.ofChange fnComposedSpec)

/-- ITS FALSE NEIGHBOUR: 'it returns false'. Refute it at one input. -/
def fnComposedWrong : ChangeSpec := { name := "fnComposed", fn := fun _ => fun
  | [d] => { results := [.lit (.bool false)], args := [d] }
  | _ => none }
def FnComposedWrongFalsely : Prop := fnComposedRow.holds Try.pinned (OpenSpec.ofChange fnComposedWrong)

/-- 'laws.FnOthers': WHATEVER THE INPUT: true; the input reads as it did. -/
def fnOthersSpec : ChangeSpec := { name := "fnOthers", fn := fun _ => fun
  | [d] => { results := [.lit (.bool true)], args := [d] }
  | _ => none }
def fnOthersRow : OpenClaim := { program := "ythfphjbaglgacaa", sum := "c995f297925b5fd2f4a382585afc174709c726e1696fa5aff99a3e0365fe21e9", func := "loop.example/g00951/laws.FnOthers", spec := "fnOthers", apart := false }
def FnOthersSaid : Prop := fnOthersRow.holds Try.pinned (OpenSpec.ofChange fnOthersSpec)

/-- ITS FALSE NEIGHBOUR: 'it returns false'. Refute it at one input. -/
def fnOthersWrong : ChangeSpec := { name := "fnOthers", fn := fun _ => fun
  | [d] => { results := [.lit (.bool false)], args := [d] }
  | _ => none }
def FnOthersWrongFalsely : Prop := fnOthersRow.holds Try.pinned (OpenSpec.ofChange fnOthersWrong)

/-- 'laws.FnScalePoints': WHATEVER THE INPUT: true; the input reads as it did. -/
def fnScalePointsSpec : ChangeSpec := { name := "fnScalePoints", fn := fun _ => fun
  | [d] => { results := [.lit (.bool true)], args := [d] }
  | _ => none }
def fnScalePointsRow : OpenClaim := { program := "ythfphjbaglgacaa", sum := "c995f297925b5fd2f4a382585afc174709c726e1696fa5aff99a3e0365fe21e9", func := "loop.example/g00951/laws.FnScalePoints", spec := "fnScalePoints", apart := false }
def FnScalePointsSaid : Prop := fnScalePointsRow.holds Try.pinned (OpenSpec.ofChange fnScalePointsSpec)

/-- ITS FALSE NEIGHBOUR: 'it returns false'. Refute it at one input. -/
def fnScalePointsWrong : ChangeSpec := { name := "fnScalePoints", fn := fun _ => fun
  | [d] => { results := [.lit (.bool false)], args := [d] }
  | _ => none }
def FnScalePointsWrongFalsely : Prop := fnScalePointsRow.holds Try.pinned (OpenSpec.ofChange fnScalePointsWrong)

/-- 'laws.FnAlignment': WHATEVER THE INPUT: true; the input reads as it did. -/
def fnAlignmentSpec : ChangeSpec := { name := "fnAlignment", fn := fun _ => fun
  | [d] => { results := [.lit (.bool true)], args := [d] }
  | _ => none }
def fnAlignmentRow : OpenClaim := { program := "ythfphjbaglgacaa", sum := "c995f297925b5fd2f4a382585afc174709c726e1696fa5aff99a3e0365fe21e9", func := "loop.example/g00951/laws.FnAlignment", spec := "fnAlignment", apart := false }
def FnAlignmentSaid : Prop := fnAlignmentRow.holds Try.pinned (OpenSpec.ofChange fnAlignmentSpec)

/-- ITS FALSE NEIGHBOUR: 'it returns false'. Refute it at one input. -/
def fnAlignmentWrong : ChangeSpec := { name := "fnAlignment", fn := fun _ => fun
  | [d] => { results := [.lit (.bool false)], args := [d] }
  | _ => none }
def FnAlignmentWrongFalsely : Prop := fnAlignmentRow.holds Try.pinned (OpenSpec.ofChange fnAlignmentWrong)

/- THE SECOND FORM. 'bulk': how many values and letters a reading holds, each counted each time it is reached (what is shared counts as often as it is met; a slice's spare places count too). A statement '..UptoSaid' is the law's where the arguments, and the package variables that the reading takes, are together of bulk at most 1048576: NARROWER than '..Said'. Prove '..Said' where nothing that the law and all that it calls make is longer than what came in: it says more and counts as full. Else prove '..UptoSaid'. A law counts once. -/
mutual
def uptoBulk {H : Type} : DataW H → Nat
  | .lit (.string bytes) => bytes.length + 1
  | .lit _ => 1
  | .nil => 1
  | .ptr d => uptoBulk d + 1
  | .slice elems spare => uptoBulkAll elems + uptoBulkAll spare + 1
  | .agg parts => uptoBulkAll parts + 1
  | .iface _ d => uptoBulk d + 1
  | .map entries => uptoBulkEntries entries + 1
  | .held _ => 1
def uptoBulkAll {H : Type} : List (DataW H) → Nat
  | [] => 0
  | d :: r => uptoBulk d + uptoBulkAll r
def uptoBulkEntries {H : Type} : List (Lit × DataW H) → Nat
  | [] => 0
  | x :: r => uptoBulkEntry x + uptoBulkEntries r
def uptoBulkEntry {H : Type} : Lit × DataW H → Nat
  | (.string bytes, d) => bytes.length + uptoBulk d + 1
  | (_, d) => uptoBulk d + 1
 end
def uptoSmall : (H : Type) → List (DataW H) → Bool := fun _ ds => decide (uptoBulkAll ds ≤ 1048576)
def OpenSpec.upto (s : _root_.Go.ChangeSpec) : _root_.Go.OpenSpec := { _root_.Go.OpenSpec.ofChange s with cond := some uptoSmall }

/-- 'laws.FnWear', WHERE WHAT IT READS IS OF BULK AT MOST 1048576: true; the input reads as it did. -/
def fnWearUptoRow : OpenClaim := { program := "ythfphjbaglgacaa", sum := "c995f297925b5fd2f4a382585afc174709c726e1696fa5aff99a3e0365fe21e9", func := "loop.example/g00951/laws.FnWear", spec := "fnWear", unfollowed := true, recurses := true, apart := false, narrowed := true }
def FnWearUptoSaid : Prop := fnWearUptoRow.holds Try.pinned (OpenSpec.upto fnWearSpec)

/-- 'laws.FnProjections', WHERE WHAT IT READS IS OF BULK AT MOST 1048576: true; the input reads as it did. -/
def fnProjectionsUptoRow : OpenClaim := { program := "ythfphjbaglgacaa", sum := "c995f297925b5fd2f4a382585afc174709c726e1696fa5aff99a3e0365fe21e9", func := "loop.example/g00951/laws.FnProjections", spec := "fnProjections", unfollowed := true, recurses := true, apart := false, narrowed := true }
def FnProjectionsUptoSaid : Prop := fnProjectionsUptoRow.holds Try.pinned (OpenSpec.upto fnProjectionsSpec)

/-- 'laws.FnComposed', WHERE WHAT IT READS IS OF BULK AT MOST 1048576: true; the input reads as it did. -/
def fnComposedUptoRow : OpenClaim := { program := "ythfphjbaglgacaa", sum := "c995f297925b5fd2f4a382585afc174709c726e1696fa5aff99a3e0365fe21e9", func := "loop.example/g00951/laws.FnComposed", spec := "fnComposed", unfollowed := true, recurses := true, apart := false, narrowed := true }
def FnComposedUptoSaid : Prop := fnComposedUptoRow.holds Try.pinned (OpenSpec.upto fnComposedSpec)

/-- 'laws.FnOthers', WHERE WHAT IT READS IS OF BULK AT MOST 1048576: true; the input reads as it did. -/
def fnOthersUptoRow : OpenClaim := { program := "ythfphjbaglgacaa", sum := "c995f297925b5fd2f4a382585afc174709c726e1696fa5aff99a3e0365fe21e9", func := "loop.example/g00951/laws.FnOthers", spec := "fnOthers", apart := false, narrowed := true }
def FnOthersUptoSaid : Prop := fnOthersUptoRow.holds Try.pinned (OpenSpec.upto fnOthersSpec)

/-- 'laws.FnScalePoints', WHERE WHAT IT READS IS OF BULK AT MOST 1048576: true; the input reads as it did. -/
def fnScalePointsUptoRow : OpenClaim := { program := "ythfphjbaglgacaa", sum := "c995f297925b5fd2f4a382585afc174709c726e1696fa5aff99a3e0365fe21e9", func := "loop.example/g00951/laws.FnScalePoints", spec := "fnScalePoints", apart := false, narrowed := true }
def FnScalePointsUptoSaid : Prop := fnScalePointsUptoRow.holds Try.pinned (OpenSpec.upto fnScalePointsSpec)

/-- 'laws.FnAlignment', WHERE WHAT IT READS IS OF BULK AT MOST 1048576: true; the input reads as it did. -/
def fnAlignmentUptoRow : OpenClaim := { program := "ythfphjbaglgacaa", sum := "c995f297925b5fd2f4a382585afc174709c726e1696fa5aff99a3e0365fe21e9", func := "loop.example/g00951/laws.FnAlignment", spec := "fnAlignment", apart := false, narrowed := true }
def FnAlignmentUptoSaid : Prop := fnAlignmentUptoRow.holds Try.pinned (OpenSpec.upto fnAlignmentSpec)

end Rows
end Go.Proofs.Ythfphjbaglgacaa
