/- Rows of pairs of integers that a call makes and appends to. No conditions. -/
import Derived.Test.YtpmcgicopogbhaaGreatProg
import Derived.Test.YtpmcgicopogbhaaGreatBase
import Derived.WalkKit
import Derived.Lib.Hide
import Derived.Deep.Draws
import Derived.Deep.AppendLies
import Derived.Deep.RegionHeld
import Derived.Deep.WholeRow
namespace Go.Proofs.YtpmcgicopogbhaaGreat
open Go.RowKit
set_option linter.unusedVariables false
/-- The cells of a list of pairs. -/
def pcells (zs : List (Int × Int)) : List Value := zs.flatMap fun p => [.int .i64 p.1, .int .i64 p.2]
theorem pcells_len (zs : List (Int × Int)) : (pcells zs).length = zs.length * 2 := by
  unfold pcells
  induction zs with
  | nil => rfl
  | cons p l ih => simp [List.flatMap_cons, ih]; omega
theorem pcells_app (zs : List (Int × Int)) (p : Int × Int) : pcells (zs ++ [p]) = pcells zs ++ [.int .i64 p.1, .int .i64 p.2] := by
  simp [pcells, List.flatMap_append]
theorem pcells_at (zs : List (Int × Int)) (i : Nat) (h : i < zs.length) : (pcells zs)[i * 2]? = some (.int .i64 (zs.getD i (0, 0)).1) ∧ (pcells zs)[i * 2 + 1]? = some (.int .i64 (zs.getD i (0, 0)).2) := by
  induction zs generalizing i with
  | nil => simp at h
  | cons p l ih =>
    cases i with
    | zero => simp [pcells, List.flatMap_cons]
    | succ i =>
      have := ih i (by simpa using h)
      have e1 : (i + 1) * 2 = i * 2 + 2 := by omega
      have e2 : (i + 1) * 2 + 1 = (i * 2 + 1) + 2 := by omega
      rw [e2, e1]
      simpa [pcells, List.flatMap_cons] using this
/-- The slice value v owns a row of pairs from block B on that begins with these. -/
def OwnP (w : World) (B : Nat) (T : TypeId) (v : Value) (zs : List (Int × Int)) : Prop := w.ownsRow B T 2 v zs.length (pcells zs)
theorem OwnP.nil (w : World) (B : Nat) (T : TypeId) : OwnP w B T (.slice none 0 0) [] := World.ownsRow_nil w B T 2
theorem OwnP.new (w : World) (B : Nat) (T : TypeId) (h : B ≤ w.heap.size) : OwnP (w.alloc (.cells #[] T)) B T (.slice (some ⟨w.heap.size, 0, none⟩) 0 0) [] :=
  World.ownsRow_made w #[] 0 h (by unfold maxLen; omega) (by simp)
theorem OwnP.step {W w' : World} {B : Nat} {T : TypeId} {v : Value} {zs : List (Int × Int)} (hb : Below W.heap.size W w') (h : OwnP W B T v zs) : OwnP w' B T v zs := by
  obtain ⟨h1, h2⟩ := h
  refine ⟨h1, ?_⟩
  rcases h2 with h2 | ⟨g, cap, cur, hv, hg, hh, r⟩
  · exact Or.inl h2
  · exact Or.inr ⟨g, cap, cur, hv, hg, (hb.block g (by
      rcases Nat.lt_or_ge g W.heap.size with hlt | hge
      · exact hlt
      · rw [Array.getElem?_eq_none hge] at hh; cases hh)).trans hh, r⟩
theorem OwnP.alloc {w : World} {B : Nat} {T : TypeId} {v : Value} {zs : List (Int × Int)} (o : Obj) (h : OwnP w B T v zs) : OwnP (w.alloc o) B T v zs := OwnP.step (Bel.alloc (Below.refl _ _) o) h
theorem OwnP.drew {w : World} {B : Nat} {T : TypeId} {v : Value} {zs : List (Int × Int)} (h : OwnP w B T v zs) : OwnP w.drew B T v zs := h
theorem OwnP.drewN {w : World} {B : Nat} {T : TypeId} {v : Value} {zs : List (Int × Int)} (n : Nat) (h : OwnP w B T v zs) : OwnP (w.drewN n) B T v zs := h
theorem OwnP.ge {w : World} {B : Nat} {T : TypeId} {v : Value} {zs : List (Int × Int)} (h : OwnP w B T v zs) : ∀ k, v.ownBlock = some k → B ≤ k := fun k hk => (h.lt k hk).1
theorem OwnP.ge_mono {w : World} {B B' : Nat} {T : TypeId} {v : Value} {zs : List (Int × Int)} (h : OwnP w B T v zs) (hB : B' ≤ B) : OwnP w B' T v zs := by
  obtain ⟨h1, h2⟩ := h
  refine ⟨h1, ?_⟩
  rcases h2 with h2 | ⟨g, cap, cur, hv, hg, r⟩
  · exact Or.inl h2
  · exact Or.inr ⟨g, cap, cur, hv, Nat.le_trans hB hg, r⟩
theorem OwnP.kept {w w' : World} {B : Nat} {T : TypeId} {v : Value} {zs : List (Int × Int)} {row : Option Nat} (h : OwnP w B T v zs) (hg : w.grownBy w' row) (hne : v.ownBlock = none ∨ v.ownBlock ≠ row) : OwnP w' B T v zs := World.ownsRow.kept h hg hne
theorem OwnP.form {w : World} {B : Nat} {T : TypeId} {v : Value} {zs : List (Int × Int)} (h : OwnP w B T v zs) : ∃ A c, v = .slice A zs.length c ∧ zs.length ≤ c ∧ c ≤ maxLen ∧ Prs w A zs ∧ (0 < zs.length → ∃ g cur, A = some ⟨g, 0, none⟩ ∧ B ≤ g ∧ Blk w g T cur ∧ cur.size = c * 2 ∧ cur.toList.take (zs.length * 2) = pcells zs) := by
  obtain ⟨_, ⟨rfl, h2⟩ | ⟨g, cap, cur, rfl, hg, hh, hn, hm, hs, ht⟩⟩ := h
  · have : zs = [] := List.eq_nil_of_length_eq_zero h2
    subst this
    exact ⟨none, 0, rfl, Nat.le_refl _, by omega, fun h => absurd h (by simp), fun h => absurd h (by simp)⟩
  · have hB : Blk w g T cur := hh
    have hx : ∀ j, j < zs.length * 2 → w.cell? ⟨g, j, none⟩ = (pcells zs)[j]? := fun j hj => by
      rw [hB.cell, ← ht, List.getElem?_take, if_pos hj, Array.getElem?_toList]
    refine ⟨some ⟨g, 0, none⟩, cap, rfl, hn, hm, fun _ => ⟨g, 0, rfl, hB.lt, fun i hi => ?_⟩, fun _ => ⟨g, cur, rfl, hg, hB, hs, ht⟩⟩
    have := pcells_at zs i hi
    rw [Nat.zero_add, hx _ (by omega), hx _ (by omega)]
    exact this
theorem OwnP.prs {w : World} {B : Nat} {T : TypeId} {A : Option Addr} {n c : Nat} {zs : List (Int × Int)} (h : OwnP w B T (.slice A n c) zs) : Prs w A zs := by
  obtain ⟨A', c', e, _, _, hI, _⟩ := h.form
  injection e with e1 e2 e3
  rw [e1]; exact hI
/-- An append of one pair. -/
theorem wpList_app1P {P : Program} {w : World} {ops : Array Oper} {rest : List Oper} {o : Oper} {a : Act} {Q : Exit → Act → World → Prop} (hgd : o.guard = none) (s x : Operand) (t : TypeId)
    (ho : o.op = .call { callee := .builtin .append, args := #[s, x], argTypes := #[t, t] })
    (B : Nat) (e : TypeId) (z : Value) (ht : P.underlying t = some (.slice e)) (hi : (P.info? e).map (fun i => (i.zero, i.size, i.bytes)) = some (some z, 2, 16)) (hzs : z.cells.size = 2)
    (v : Value) (zs : List (Int × Int)) (p : Int × Int) (hs : a.eval s = v) (hown : OwnP w B e v zs) (g : Nat)
    (hx : a.eval x = .slice (some ⟨g, 0, none⟩) 1 1) (hc0 : w.cell? ⟨g, 0, none⟩ = some (.int .i64 p.1)) (hc1 : w.cell? ⟨g, 1, none⟩ = some (.int .i64 p.2)) (hl : zs.length ≤ 1000000000) (hbase : B ≤ w.heap.size)
    (h : ∀ v' w', OwnP w' B e v' (zs ++ [p]) → Below B w w' → wpList P ops Q rest (a.put o.dst v') w') : wpList P ops Q (o :: rest) a w := by
  obtain ⟨i0, hi0, hz0, hz1, hz2⟩ := info_parts hi
  refine wpList_append_own w hgd s x t ho B e i0 _ 2 16 ht hi0 hz0 hz1 hz2 hzs (by omega) v zs.length _ hs hown ⟨g, 0, none⟩ 1 1 [.int .i64 p.1, .int .i64 p.2] hx rfl ?_ (by simp [Value.oneCell']) (by unfold maxLen; omega) (by omega) hbase ?_
  · intro j u hu
    match j with
    | 0 => simp at hu; subst hu; simpa [Addr.add] using hc0
    | 1 => simp at hu; subst hu; simpa [Addr.add] using hc1
    | j + 2 => simp at hu
  · intro v' w' h1 h2 _
    refine h v' w' ?_ ((Below.refl B w).grown h2 hbase (fun k hk => hown.ge k hk))
    unfold OwnP
    rw [List.length_append, pcells_app]
    exact h1
theorem Below.cell_ {B : Nat} {w w' : World} (h : Below B w w') (g i : Nat) (hg : g < B) : w'.cell? ⟨g, i, none⟩ = w.cell? ⟨g, i, none⟩ := World.cell?_of_block (h.block g hg)
/-- An append of one pair at a step of a region that draws its order. -/
theorem step_app1P {P : Program} {w : World} {ops : Array Oper} {o : Oper} {a : Act} {K : Act → World → Prop} {Q : Exit → Act → World → Prop} {E : Prop} (hgd : o.guard = none) (s x : Operand) (t : TypeId)
    (ho : o.op = .call { callee := .builtin .append, args := #[s, x], argTypes := #[t, t] })
    (B : Nat) (e : TypeId) (z : Value) (ht : P.underlying t = some (.slice e)) (hi : (P.info? e).map (fun i => (i.zero, i.size, i.bytes)) = some (some z, 2, 16)) (hzs : z.cells.size = 2)
    (v : Value) (zs : List (Int × Int)) (p : Int × Int) (hs : a.eval s = v) (hown : OwnP w B e v zs) (g : Nat)
    (hx : a.eval x = .slice (some ⟨g, 0, none⟩) 1 1) (hc0 : w.cell? ⟨g, 0, none⟩ = some (.int .i64 p.1)) (hc1 : w.cell? ⟨g, 1, none⟩ = some (.int .i64 p.2)) (hl : zs.length ≤ 1000000000) (hbase : B ≤ w.heap.size)
    (h : ∀ v' w', OwnP w' B e v' (zs ++ [p]) → Below B w w' → K (a.put o.dst v') w') :
    if Region.wanted o (yielded ops a.tmps) = true then Oper.wp P o a w K Q else E := by
  obtain ⟨i0, hi0, hz0, hz1, hz2⟩ := info_parts hi
  refine step_append_lies _ hgd s x t ho B e i0 _ 2 16 ht hi0 hz0 hz1 hz2 hzs (by omega) v zs.length _ hs hown ⟨g, 0, none⟩ 1 1 [.int .i64 p.1, .int .i64 p.2] hx rfl ?_ (by simp [Value.oneCell']) (by omega) (by unfold maxLen; omega) (by omega) hbase _ rfl ?_
  · intro j u hu
    match j with
    | 0 => simp at hu; subst hu; simpa [Addr.add] using hc0
    | 1 => simp at hu; subst hu; simpa [Addr.add] using hc1
    | j + 2 => simp at hu
  · intro gg cap w' h1 h2 _ _
    refine h _ w' ?_ ((Below.refl B w).grown h2 hbase (fun k hk => hown.ge k hk))
    unfold OwnP
    rw [List.length_append, pcells_app]
    exact h1
/-- An append of one number at a step of a region that draws its order. -/
theorem step_app1 {P : Program} {w : World} {ops : Array Oper} {o : Oper} {a : Act} {K : Act → World → Prop} {Q : Exit → Act → World → Prop} {E : Prop} (hgd : o.guard = none) (s x : Operand) (t : TypeId)
    (ho : o.op = .call { callee := .builtin .append, args := #[s, x], argTypes := #[t, t] })
    (B : Nat) (e : TypeId) (ht : P.underlying t = some (.slice e)) (hi : (P.info? e).map (fun i => (i.zero, i.size, i.bytes)) = some (some (.int .i64 0), 1, 8))
    (v : Value) (zs : List Int) (y : Int) (hs : a.eval s = v) (hown : Own w B e v zs) (g : Nat)
    (hx : a.eval x = .slice (some ⟨g, 0, none⟩) 1 1) (hc : w.cell? ⟨g, 0, none⟩ = some (.int .i64 y)) (hl : zs.length ≤ 1000000000) (hbase : B ≤ w.heap.size)
    (h : ∀ v' w', Own w' B e v' (zs ++ [y]) → Below B w w' → K (a.put o.dst v') w') :
    if Region.wanted o (yielded ops a.tmps) = true then Oper.wp P o a w K Q else E := by
  obtain ⟨i0, hi0, hz0, hz1, hz2⟩ := info_parts hi
  refine step_append_lies _ hgd s x t ho B e i0 _ 1 8 ht hi0 hz0 hz1 hz2 rfl (by omega) v zs.length _ hs hown ⟨g, 0, none⟩ 1 1 [.int .i64 y] hx rfl ?_ (by simp [Value.oneCell']) (by omega) (by unfold maxLen; omega) (by omega) hbase _ rfl ?_
  · intro j u hu
    cases j with
    | zero => simp at hu; subst hu; simpa [Addr.add] using hc
    | succ j => simp at hu
  · intro gg cap w' h1 h2 _ _
    refine h _ w' ?_ ((Below.refl B w).grown h2 hbase (fun k hk => hown.ge k hk))
    unfold Own
    rw [List.length_append, List.map_append]
    exact h1
/-! Whole structs: loads, stores and results -/
theorem Blk.setRow {w : World} {g : Nat} {t : TypeId} {old : Array Value} (cs : Array Value) (h : Blk w g t old) : Blk (w.setRow g cs) g t cs := setRow_heap w g old cs t (0, 0) h
theorem Blk.setRow_far {w : World} {g k : Nat} {t : TypeId} {old : Array Value} (cs : Array Value) (hk : k ≠ g) (h : Blk w k t old) : Blk (w.setRow g cs) k t old := (setRow_other w g k cs hk).trans h
theorem Bel.setRow {w W : World} (h : Below w.heap.size w W) {g : Nat} (hg : w.heap.size ≤ g) (cs : Array Value) : Below w.heap.size w (W.setRow g cs) :=
  h.trans ⟨rfl, rfl, rfl, by simp [World.setRow], fun k hk => setRow_other W g k cs (by omega)⟩
theorem wpList_load_blk {P : Program} {ops : Array Oper} {rest : List Oper} {o : Oper} {a : Act} {w : World} {Q : Exit → Act → World → Prop} (ty : TypeId) (x : Operand) (g : Nat) {cs : Array Value} {t : TypeId} {fs : Array Field} (hB : Blk w g t cs)
    (hu : P.underlying ty = some (.struct fs)) (hi : (P.info? ty).map (·.size) = some cs.size) (hgd : o.guard = none) (ho : o.op = .load ty x) (hx : a.eval x = .pointer (some ⟨g, 0, none⟩))
    (h : wpList P ops Q rest (a.put o.dst (.agg cs)) w) : wpList P ops Q (o :: rest) a w :=
  wpList_load_row hgd ty x ho g hx t cs (0, 0) _ hB hu rfl hi h
theorem wpList_store_blk {P : Program} {ops : Array Oper} {rest : List Oper} {o : Oper} {a : Act} {w : World} {Q : Exit → Act → World → Prop} (ty : TypeId) (x y : Operand) (g : Nat) {cs old : Array Value} {t : TypeId} (hB : Blk w g t old)
    (hi : (P.info? ty).map (·.size) = some cs.size) (hold : old.size = cs.size) (h1 : cs.all (·.oneCell') = true) (hgd : o.guard = none) (ho : o.op = .store ty x y) (hx : a.eval x = .pointer (some ⟨g, 0, none⟩)) (hy : a.eval y = .agg cs)
    (h : wpList P ops Q rest (a.put o.dst undef) (w.setRow g cs)) : wpList P ops Q (o :: rest) a w :=
  wpList_store_row hgd ty x y ho g cs hx hy t old hB hi hold h1 h
theorem results_blk {P : Program} {fn : Func} {p : Tmp} {ty : TypeId} {tmps : Array Value} {w : World} {g : Nat} {t : TypeId} {cs : Array Value} {fs : Array Field} (hB : Blk w g t cs) (hu : P.underlying ty = some (.struct fs)) (hi : (P.info? ty).map (·.size) = some cs.size)
    (h : fn.results = #[.cell p ty]) (hp : tmps.getD p undef = .pointer (some ⟨g, 0, none⟩)) : (results fn tmps).run P w = .ok (.agg cs) w :=
  results_cell_row h tmps w g t cs (0, 0) _ hp hB hu rfl hi
theorem yieldsIf_load_blk {P : Program} {ops : Array Oper} {S : World → Prop} {op : Oper} {a : Act} (ty : TypeId) (x : Operand) (g : Nat) {cs : Array Value} {t : TypeId} {fs : Array Field} (hS : ∀ w, S w → Blk w g t cs)
    (hu : P.underlying ty = some (.struct fs)) (hi : (P.info? ty).map (·.size) = some cs.size) (hw : Region.wanted op (yielded ops a.tmps) = true) (ho : op.op = .load ty x) (hx : a.eval x = .pointer (some ⟨g, 0, none⟩)) : YieldsIf P ops S op (.agg cs) a :=
  .inl ⟨hw, fun w hw' => by
    unfold execOp
    simp only [ho, hx, Instr.loadAt, Instr.sureAddr, Sem.run_bind, Sem.run_pure, Result.andThen_ok, run_loadVar_row w g t ty cs (0, 0) _ (hS w hw') hu rfl hi]⟩
end Go.Proofs.YtpmcgicopogbhaaGreat
