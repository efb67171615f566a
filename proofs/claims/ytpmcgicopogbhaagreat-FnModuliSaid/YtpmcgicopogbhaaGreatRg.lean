/- A load of a whole struct under a guard. No conditions. -/
import Derived.Test.YtpmcgicopogbhaaGreatProg
import Derived.Test.YtpmcgicopogbhaaGreatBase
import Derived.Test.YtpmcgicopogbhaaGreatRw
import Derived.WalkKit
import Derived.Lib.Hide
import Derived.Deep.MidRow
import Derived.Deep.RegionHeld
namespace Go.Proofs.YtpmcgicopogbhaaGreat
open Go.RowKit
set_option linter.unusedVariables false
theorem wpList_load_blkG {P : Program} {ops : Array Oper} {rest : List Oper} {o : Oper} {a : Act} {w : World} {Q : Exit → Act → World → Prop} (ty : TypeId) (x : Operand) (g : Nat) {cs : Array Value} {t : TypeId} {fs : Array Field} (hB : Blk w g t cs)
    (hu : P.underlying ty = some (.struct fs)) (hi : (P.info? ty).map (·.size) = some cs.size) (ho : o.op = .load ty x) (hx : a.eval x = .pointer (some ⟨g, 0, none⟩)) (hw : Region.wanted o (yielded ops a.tmps) = true)
    (h : wpList P ops Q rest (a.put o.dst (.agg cs)) w) : wpList P ops Q (o :: rest) a w :=
  wpList_step fun _ hK => by rw [if_pos hw]; exact wp_load_row ty x ho g hx t cs (0, 0) _ hB hu rfl hi (hK _ _ h)
open Go.RowKit
set_option linter.unusedVariables false
theorem Blk.part {w : World} {g : Nat} {t : TypeId} {cs : Array Value} (h : Blk w g t cs) (o : Nat) (l : List Value) (hl : (cs.toList.drop o).take l.length = l) : w.rangeAt g o l := fun j v hv => by
  have hj : j < l.length := by
    rcases Nat.lt_or_ge j l.length with k | k
    · exact k
    · rw [List.getElem?_eq_none k] at hv; cases hv
  rw [h.cell, ← Array.getElem?_toList]
  have e := congrArg (fun z => z[j]?) hl
  simp only [List.getElem?_take, if_pos hj, List.getElem?_drop] at e
  rw [e]; exact hv
theorem yieldsIf_load_part {P : Program} {ops : Array Oper} {S : World → Prop} {op : Oper} {a : Act} (ty : TypeId) (x : Operand) (g o : Nat) (l : List Value) {cs : Array Value} {t : TypeId} {fs : Array Field} (hS : ∀ w, S w → Blk w g t cs) (hl : (cs.toList.drop o).take l.length = l)
    (hu : P.underlying ty = some (.struct fs)) (hi : (P.info? ty).map (·.size) = some l.length) (hw : Region.wanted op (yielded ops a.tmps) = true) (ho : op.op = .load ty x) (hx : a.eval x = .pointer (some ⟨g, o, none⟩)) : YieldsIf P ops S op (.agg l.toArray) a :=
  yieldsIf_load_mid hw ty x ho g o hx l _ (fun w h => (hS w h).part o l hl) hu rfl hi
theorem wpList_load_part {P : Program} {ops : Array Oper} {rest : List Oper} {op : Oper} {a : Act} {w : World} {Q : Exit → Act → World → Prop} (ty : TypeId) (x : Operand) (g o : Nat) (l : List Value) {cs : Array Value} {t : TypeId} {fs : Array Field} (hB : Blk w g t cs) (hl : (cs.toList.drop o).take l.length = l)
    (hu : P.underlying ty = some (.struct fs)) (hi : (P.info? ty).map (·.size) = some l.length) (ho : op.op = .load ty x) (hx : a.eval x = .pointer (some ⟨g, o, none⟩)) (hw : Region.wanted op (yielded ops a.tmps) = true)
    (h : wpList P ops Q rest (a.put op.dst (.agg l.toArray)) w) : wpList P ops Q (op :: rest) a w :=
  wpList_step fun _ hK => by rw [if_pos hw]; exact wp_load_mid ty x ho g o hx l _ (hB.part o l hl) hu rfl hi (hK _ _ h)
end Go.Proofs.YtpmcgicopogbhaaGreat
