/- Copies of exponents; marks in charts. Conditions: as stated at each contract. -/
import Derived.Test.YtpmcgicopogbhaaGreatProg
import Derived.Test.YtpmcgicopogbhaaGreatBase
import Derived.Test.YtpmcgicopogbhaaGreatL01
import Derived.Test.YtpmcgicopogbhaaGreatCp
import Derived.WalkKit
import Derived.WalkSpells
import Derived.WalkLawsBesides
import Derived.Lib.Hide
import Derived.Deep.QuietTactic
import Derived.BigQuiet
import Derived.Deep.Draws
import Derived.Deep.RegionHeld3
namespace Go.Proofs.YtpmcgicopogbhaaGreat
open Go.RowKit
set_option linter.unusedVariables false
theorem addr_add (b o i : Nat) : (⟨b, o, none⟩ : Addr).add i = ⟨b, o + i, none⟩ := by
  unfold Addr.add; split <;> simp_all
theorem wpList_appL {P : Program} {w : World} {ops : Array Oper} {rest : List Oper} {o : Oper} {a : Act} {Q : Exit → Act → World → Prop} (hgd : o.guard = none) (s x : Operand) (t : TypeId)
    (ho : o.op = .call { callee := .builtin .append, args := #[s, x], argTypes := #[t, t] })
    (B : Nat) (e : TypeId) (ht : P.underlying t = some (.slice e)) (hi : (P.info? e).map (fun i => (i.zero, i.size, i.bytes)) = some (some (.int .i64 0), 1, 8))
    (v : Value) (zs ys : List Int) (hs : a.eval s = v) (hown : Own w B e v zs) (A : Option Addr) (c : Nat)
    (hx : a.eval x = .slice A ys.length c) (hI : Ints w A ys) (h0 : 0 < ys.length) (hl : zs.length ≤ 1000000000) (hl2 : ys.length ≤ 1000000000) (hbase : B ≤ w.heap.size)
    (h : ∀ v' w', Own w' B e v' (zs ++ ys) → Below B w w' → wpList P ops Q rest (a.put o.dst v') w') : wpList P ops Q (o :: rest) a w := by
  obtain ⟨i0, hi0, hz0, hz1, hz2⟩ := info_parts hi
  obtain ⟨b, off, rfl, hb, hc⟩ := hI h0
  refine wpList_append_own w hgd s x t ho B e i0 _ 1 8 ht hi0 hz0 hz1 hz2 rfl (by omega) v zs.length _ hs hown ⟨b, off, none⟩ ys.length c (ys.map (Value.int .i64)) hx (by simp) ?_ (by simp [Value.oneCell']) (by unfold maxLen; omega) (by omega) hbase ?_
  · intro j u hu
    rw [List.getElem?_map] at hu
    by_cases hj : j < ys.length
    · rw [List.getElem?_eq_getElem hj] at hu
      simp at hu
      subst hu
      have := hc j hj
      simp only [List.getD, List.getElem?_eq_getElem hj, Option.getD_some] at this
      rw [addr_add]; exact this
    · rw [List.getElem?_eq_none (by omega)] at hu; simp at hu
  · intro v' w' h1 h2 _
    refine h v' w' ?_ ((Below.refl B w).grown h2 hbase (fun k hk => hown.ge k hk))
    unfold Own
    rw [List.length_append, List.map_append]
    exact h1
theorem grown_alloc {w w' : World} {o : Obj} {row : Option Nat} (h : (w.alloc o).grownBy w' row) : w.grownBy w' row := by
  refine ⟨h.os, h.tape, h.output, Nat.le_trans (by simp) h.size, fun i hi hne => ?_⟩
  refine (h.block i (by simp; omega) hne).trans ?_
  exact (Bel.alloc (Below.refl w.heap.size w) o).block i hi
theorem grown_below {w W w' : World} {row : Option Nat} (h : w.grownBy W row) (hb : Below W.heap.size W w') : w.grownBy w' row :=
  ⟨hb.os.trans h.os, hb.tape.trans h.tape, hb.output.trans h.output, Nat.le_trans h.size hb.size, fun i hi hne => (hb.block i (Nat.lt_of_lt_of_le hi h.size)).trans (h.block i hi hne)⟩
set_option maxRecDepth 20000 in
theorem l01Own_c (A : Option Addr) (c : Nat) (zs : List Int) (h0 : 0 < zs.length) (hn : zs.length ≤ 1048576) (w : World) (hA : Ints w A zs) :
    Calls Tryz.prog 101 #[.slice A zs.length c] w fun e w' => ∃ v, e = .returned v ∧ Own w' w.heap.size 2 v zs ∧ Below w.heap.size w w' := by
  obtain ⟨b, o, rfl, hb, _⟩ := hA h0
  have he : ∀ W : World, (binOp .eql 26 (.slice (some ⟨b, o, none⟩) zs.length c) (.slice none 0 0)).run Tryz.prog W = .ok (.bool false) W := fun _ => rfl
  go_enter Tryz.func101, Tryz.ntmps101
  go_wp2_with (at_builtin; refine wpList_appL rfl _ _ 26 rfl w.heap.size 2 Tryz.underlying26 info64 _ [] zs rfl (Own.new _ _ _ (Nat.le_refl _)) _ c rfl (Ints.alloc _ hA) h0 (by simp) (by omega) (by simp) ?_; intro v1 w1 hO1 hb1)
  go_ret
  exact ⟨_, rfl, hO1, (Bel.alloc (Below.refl _ _) _).trans hb1⟩
set_option maxRecDepth 20000 in
theorem Clone_c (A : Option Addr) (c : Nat) (zs : List Int) (h0 : 0 < zs.length) (hn : zs.length ≤ 1048576) (w : World) (hA : Ints w A zs) :
    Calls Tryz.prog 152 #[.slice A zs.length c] w fun e w' => ∃ v, e = .returned v ∧ Own w' w.heap.size 2 v zs ∧ Below w.heap.size w w' := by
  obtain ⟨b, o, rfl, hb, _⟩ := hA h0
  have he : ∀ W : World, (binOp .eql 26 (.slice (some ⟨b, o, none⟩) zs.length c) (.slice none 0 0)).run Tryz.prog W = .ok (.bool false) W := fun _ => rfl
  go_enter Tryz.func152, Tryz.ntmps152
  go_wp2_with (at_builtin; refine wpList_appL rfl _ _ 26 rfl w.heap.size 2 Tryz.underlying26 info64 _ [] zs rfl (Own.new _ _ _ (Nat.le_refl _)) _ c rfl (Ints.alloc _ hA) h0 (by simp) (by omega) (by simp) ?_; intro v1 w1 hO1 hb1)
  go_ret
  exact ⟨_, rfl, hO1, (Bel.alloc (Below.refl _ _) _).trans hb1⟩
end Go.Proofs.YtpmcgicopogbhaaGreat
