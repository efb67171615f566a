/- Draws: rows of pairs. Conditions: as stated at each contract. -/
import Derived.Test.YtpmcgicopogbhaaGreatProg
import Derived.Test.YtpmcgicopogbhaaGreatBase
import Derived.Test.YtpmcgicopogbhaaGreatRw
import Derived.Test.YtpmcgicopogbhaaGreatL01
import Derived.Test.YtpmcgicopogbhaaGreatD00
import Derived.WalkKit
import Derived.Lib.Hide
import Derived.Deep.AppendLies
namespace Go.Proofs.YtpmcgicopogbhaaGreat
open Go.RowKit
set_option linter.unusedVariables false
/-- An append of one pair, which tells where the new row lies. -/
theorem wpList_app1PX {P : Program} {w : World} {ops : Array Oper} {rest : List Oper} {o : Oper} {a : Act} {Q : Exit → Act → World → Prop} (hgd : o.guard = none) (s x : Operand) (t : TypeId)
    (ho : o.op = .call { callee := .builtin .append, args := #[s, x], argTypes := #[t, t] })
    (B : Nat) (e : TypeId) (z : Value) (ht : P.underlying t = some (.slice e)) (hi : (P.info? e).map (fun i => (i.zero, i.size, i.bytes)) = some (some z, 2, 16)) (hzs : z.cells.size = 2)
    (v : Value) (zs : List (Int × Int)) (p : Int × Int) (hs : a.eval s = v) (hown : OwnP w B e v zs) (g : Nat)
    (hx : a.eval x = .slice (some ⟨g, 0, none⟩) 1 1) (hc0 : w.cell? ⟨g, 0, none⟩ = some (.int .i64 p.1)) (hc1 : w.cell? ⟨g, 1, none⟩ = some (.int .i64 p.2)) (hl : zs.length ≤ 1000000) (hbase : B ≤ w.heap.size)
    (h : ∀ g' cap w', OwnP w' B e (.slice (some ⟨g', 0, none⟩) (zs.length + 1) cap) (zs ++ [p]) → w.grownBy w' v.ownBlock → (v.ownBlock = some g' ∨ g' = w.heap.size) → wpList P ops Q rest (a.put o.dst (.slice (some ⟨g', 0, none⟩) (zs.length + 1) cap)) w') : wpList P ops Q (o :: rest) a w := by
  obtain ⟨i0, hi0, hz0, hz1, hz2⟩ := info_parts hi
  refine wpList_append_lies w hgd s x t ho B e i0 _ 2 16 ht hi0 hz0 hz1 hz2 hzs (by omega) v zs.length _ hs hown ⟨g, 0, none⟩ 1 1 [.int .i64 p.1, .int .i64 p.2] hx rfl ?_ (by simp [Value.oneCell']) (by omega) (by unfold maxLen; omega) (by omega) hbase _ rfl ?_
  · intro j u hu
    match j with
    | 0 => simp at hu; subst hu; simpa [Addr.add] using hc0
    | 1 => simp at hu; subst hu; simpa [Addr.add] using hc1
    | j + 2 => simp at hu
  · intro g' cap w' h1 h2 h3 _
    refine h g' cap w' ?_ h2 h3
    unfold OwnP
    rw [List.length_append, pcells_app]
    exact h1
def lenOf : Value → Nat | .slice _ n _ => n | _ => 0
end Go.Proofs.YtpmcgicopogbhaaGreat
