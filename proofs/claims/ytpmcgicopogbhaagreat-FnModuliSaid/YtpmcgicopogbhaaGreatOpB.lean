/- A slice of bytes that a statement's arguments hold. No conditions. -/
import Derived.Test.YtpmcgicopogbhaaGreatProg
import Derived.Test.YtpmcgicopogbhaaGreatBase
import Derived.Test.YtpmcgicopogbhaaGreatOp
import Derived.Test.YtpmcgicopogbhaaGreatD00
import Derived.WalkKit
import Derived.ProofKit
import Derived.OpenShut
import Derived.ChangeOld
import Derived.Lib.SmallJoins
import Derived.ChangeSlices
namespace Go.Proofs.YtpmcgicopogbhaaGreat
open Go.RowKit Go.ChangeShapes Go.WideShapes Go.ChangeAt Go.Joins
set_option linter.unusedVariables false
section
variable {H : Type} {enc : TypeId × Value → H} {P : Program} {w : World} {base : Nat} {spare : Nat → Bool} {held : Bool}
theorem open_Byts {t e : TypeId} {A : Option Addr} {n c : Nat} {d : DataW H} {p : List MemPlace} (ht : P.underlying t = some (.slice e)) (he : P.underlying e = some (.int .u8)) (hc : P.cellsOf e = 1)
    (h : DataW.Trod enc P w base spare held t (.slice A n c) d p) : ∃ zs : List Int, n = zs.length ∧ zs.length ≤ 9223372036854775807 ∧ Byts w A zs := by
  obtain ⟨fuel, hf⟩ := h
  rcases open_ints ht he hc hf with ⟨hcs, _⟩ | ⟨x, l, c', zs, hcs, _, hl, hm, hz, _, hcell, hwz⟩
  · simp [Value.cells] at hcs
    obtain ⟨rfl, rfl, rfl⟩ := hcs
    exact ⟨[], rfl, by simp, fun i h => absurd h (by simp), fun h => absurd h (by simp)⟩
  · simp [Value.cells] at hcs
    obtain ⟨rfl, rfl, rfl⟩ := hcs
    have hlen : n ≤ zs.length := by rw [hz]; split <;> omega
    have hlt : (zs.take n).length = n := by simp; omega
    refine ⟨zs.take n, hlt.symm, by unfold maxLen at hm; omega, fun i hi => ?_, fun h => ?_⟩
    · rw [hlt] at hi
      have e1 : (zs.take n).getD i 0 = zs[i]'(by omega) := by simp [List.getD, hi, List.getElem?_eq_getElem (show i < zs.length by omega)]
      have := hwz _ (List.getElem_mem (show i < zs.length by omega))
      rw [e1]
      generalize zs[i] = z at this
      simp [Lit.wf, IntKind.min, IntKind.max, IntKind.signed, IntKind.bits] at this
      exact ⟨by omega, by omega⟩
    rw [hlt] at h
    obtain ⟨b, o, rfl, hb⟩ := cell_form (hcell 0 (by omega))
    refine ⟨b, o, rfl, hb, fun i hi => ?_⟩
    rw [hlt] at hi
    have := hcell i (by omega)
    rw [add_form] at this
    rw [this]
    congr 2
    simp [List.getD, hi]
end
end Go.Proofs.YtpmcgicopogbhaaGreat
