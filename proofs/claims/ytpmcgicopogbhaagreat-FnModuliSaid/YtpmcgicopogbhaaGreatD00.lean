/- Draws: what a draw leaves of memory. No conditions. -/
import Derived.Test.YtpmcgicopogbhaaGreatProg
import Derived.Test.YtpmcgicopogbhaaGreatBase
import Derived.Test.YtpmcgicopogbhaaGreatRw
import Derived.Test.YtpmcgicopogbhaaGreatL01
import Derived.WalkKit
import Derived.WalkSpells
import Derived.WalkLawsBesides
import Derived.Lib.Hide
import Derived.Deep.MidRow
namespace Go.Proofs.YtpmcgicopogbhaaGreat
open Go.RowKit
set_option linter.unusedVariables false
/-- Of what was there only block X may have turned. -/
def Kp (X : Nat) (w w' : World) : Prop := w.grownBy w' (some X)
theorem Kp.refl (X : Nat) (w : World) : Kp X w w := ⟨rfl, rfl, rfl, Nat.le_refl _, fun _ _ _ => rfl⟩
theorem Kp.trans {X : Nat} {a b c : World} (h : Kp X a b) (k : Kp X b c) : Kp X a c :=
  ⟨k.os.trans h.os, k.tape.trans h.tape, k.output.trans h.output, Nat.le_trans h.size k.size, fun i hi hn => (k.block i (Nat.lt_of_lt_of_le hi h.size) hn).trans (h.block i hi hn)⟩
theorem Kp.size_ {X : Nat} {a b : World} (h : Kp X a b) : a.heap.size ≤ b.heap.size := h.size
theorem Kp.of_bel {X : Nat} {w w' : World} (hb : Below w.heap.size w w') : Kp X w w' := ⟨hb.os, hb.tape, hb.output, hb.size, fun k hk _ => hb.block k hk⟩
theorem Kp.alloc {X : Nat} {a w : World} (o : Obj) (h : Kp X a w) : Kp X a (w.alloc o) := Kp.trans h (World.grownBy_alloc w o _)
theorem Kp.drew {X : Nat} {a w : World} (h : Kp X a w) : Kp X a w.drew := ⟨h.os, h.tape, h.output, h.size, h.block⟩
theorem Kp.drewN {X : Nat} {a w : World} (n : Nat) (h : Kp X a w) : Kp X a (w.drewN n) := ⟨h.os, h.tape, h.output, h.size, h.block⟩
theorem Kp.below {X : Nat} {a w w' : World} (hb : Below w.heap.size w w') (h : Kp X a w) : Kp X a w' := Kp.trans h (Kp.of_bel hb)
theorem Kp.setX {X : Nat} {a w : World} (o : Nat) (u : Value) (h : Kp X a w) : Kp X a (w.setCell ⟨X, o, none⟩ u) := grown_set h u
theorem Kp.set_ {X : Nat} {a w : World} {p : Addr} (hp : a.heap.size ≤ p.block) (u : Value) (h : Kp X a w) : Kp X a (w.setCell p u) :=
  ⟨h.os, h.tape, h.output, by have := h.size; simpa [World.setCell] using this, fun i hi hne => (Below.heap_setCell w p u i (by omega)).trans (h.block i hi hne)⟩
theorem Kp.setRow {X : Nat} {a w : World} {g : Nat} (hg : a.heap.size ≤ g) (cs : Array Value) (h : Kp X a w) : Kp X a (w.setRow g cs) :=
  ⟨h.os, h.tape, h.output, by have := h.size; simpa [World.setRow] using this, fun i hi hne => (setRow_other w g i cs (by omega)).trans (h.block i hi hne)⟩
theorem Kp.bel {B X : Nat} {a w w' : World} (k : Kp X w w') (hB : B ≤ X) (h2 : B ≤ w.heap.size) (hb : Below B a w) : Below B a w' :=
  hb.grown k h2 (fun j hj => by cases hj; exact hB)
theorem Blk.kp {X : Nat} {w w' : World} {g : Nat} {t : TypeId} {cs : Array Value} (k : Kp X w w') (hn : g ≠ X) (h : Blk w g t cs) : Blk w' g t cs :=
  (k.block g h.lt (by simpa using hn)).trans h
theorem Own.kp {X : Nat} {w w' : World} {B : Nat} {T : TypeId} {v : Value} {zs : List Int} (k : Kp X w w') (hB : X < B) (h : Own w B T v zs) : Own w' B T v zs := by
  refine World.ownsRow.kept h k ?_
  rcases hv : v.ownBlock with _ | g
  · exact .inl rfl
  · refine .inr ?_
    have := h.ge g hv
    simp; omega
theorem OwnP.kp {X : Nat} {w w' : World} {B : Nat} {T : TypeId} {v : Value} {zs : List (Int × Int)} (k : Kp X w w') (hB : X < B) (h : OwnP w B T v zs) : OwnP w' B T v zs := by
  refine World.ownsRow.kept h k ?_
  rcases hv : v.ownBlock with _ | g
  · exact .inl rfl
  · refine .inr ?_
    have := (World.ownsRow.lt h g hv).1
    simp; omega
/-- A slice of bytes that reads as a list of numbers. -/
structure Byts (w : World) (A : Option Addr) (zs : List Int) : Prop where
  rng : ∀ i, i < zs.length → 0 ≤ zs.getD i 0 ∧ zs.getD i 0 ≤ 255
  cells : 0 < zs.length → ∃ b o, A = some ⟨b, o, none⟩ ∧ b < w.heap.size ∧ ∀ i, i < zs.length → w.cell? ⟨b, o + i, none⟩ = some (.int .u8 (zs.getD i 0))
theorem Byts.step {W w' : World} {A : Option Addr} {zs : List Int} (hb : Below W.heap.size W w') (h : Byts W A zs) : Byts w' A zs := ⟨h.rng, fun hn => by
  obtain ⟨b, o, e, hlt, hc⟩ := h.cells hn
  exact ⟨b, o, e, Nat.lt_of_lt_of_le hlt hb.size, fun i hi => (hb.cell (p := ⟨b, o + i, none⟩) hlt).trans (hc i hi)⟩⟩
/-- A source of draws lies at block X: it reads the code, which lies below. -/
structure Src (w : World) (X : Nat) (A : Option Addr) (zs : List Int) : Prop where
  len : zs.length ≤ 4096
  blk : ∃ (k : Nat) (sd : Int) (c : Nat), k ≤ zs.length ∧ 0 ≤ sd ∧ sd < 2147483647 ∧ Blk w X 125 #[.slice A zs.length c, .int .i64 k, .int .i64 sd]
  rng : ∀ i, i < zs.length → 0 ≤ zs.getD i 0 ∧ zs.getD i 0 ≤ 255
  cells : 0 < zs.length → ∃ b o, A = some ⟨b, o, none⟩ ∧ b < X ∧ ∀ i, i < zs.length → w.cell? ⟨b, o + i, none⟩ = some (.int .u8 (zs.getD i 0))
theorem Src.lt {w : World} {X : Nat} {A : Option Addr} {zs : List Int} (h : Src w X A zs) : X < w.heap.size := by
  obtain ⟨k, sd, c, _, _, _, hB⟩ := h.blk
  exact hB.lt
/-- The source stays as it was where neither its block nor what lies below turns. -/
theorem Src.step {W w' : World} {X : Nat} {A : Option Addr} {zs : List Int} (hb : Below W.heap.size W w') (h : Src W X A zs) : Src w' X A zs := by
  have hX := h.lt
  obtain ⟨k, sd, c, h1, h2, h3, hB⟩ := h.blk
  refine ⟨h.len, ⟨k, sd, c, h1, h2, h3, Blk.step hb hB⟩, h.rng, fun hn => ?_⟩
  obtain ⟨b, o, e, hlt, hc⟩ := h.cells hn
  exact ⟨b, o, e, hlt, fun i hi => (hb.cell (p := ⟨b, o + i, none⟩) (show b < _ by omega)).trans (hc i hi)⟩
theorem Src.alloc {w : World} {X : Nat} {A : Option Addr} {zs : List Int} (o : Obj) (h : Src w X A zs) : Src (w.alloc o) X A zs := Src.step (Bel.alloc (Below.refl _ _) o) h
theorem Src.drew {w : World} {X : Nat} {A : Option Addr} {zs : List Int} (h : Src w X A zs) : Src w.drew X A zs := ⟨h.len, h.blk, h.rng, h.cells⟩
theorem Src.drewN {w : World} {X : Nat} {A : Option Addr} {zs : List Int} (n : Nat) (h : Src w X A zs) : Src (w.drewN n) X A zs := ⟨h.len, h.blk, h.rng, h.cells⟩
theorem Src.far {w : World} {X : Nat} {A : Option Addr} {zs : List Int} {p : Addr} (u : Value) (hp : X < p.block) (h : Src w X A zs) : Src (w.setCell p u) X A zs := by
  have hX := h.lt
  obtain ⟨k, sd, c, h1, h2, h3, hB⟩ := h.blk
  refine ⟨h.len, ⟨k, sd, c, h1, h2, h3, hB.far u (by omega)⟩, h.rng, fun hn => ?_⟩
  obtain ⟨b, o, e, hlt, hc⟩ := h.cells hn
  exact ⟨b, o, e, hlt, fun i hi => (World.cell?_of_block (Below.heap_setCell w p u b (by omega))).trans (hc i hi)⟩
theorem Src.setRow {w : World} {X : Nat} {A : Option Addr} {zs : List Int} {g : Nat} (cs : Array Value) (hg : X < g) (h : Src w X A zs) : Src (w.setRow g cs) X A zs := by
  have hX := h.lt
  obtain ⟨k, sd, c, h1, h2, h3, hB⟩ := h.blk
  refine ⟨h.len, ⟨k, sd, c, h1, h2, h3, hB.setRow_far cs (by omega)⟩, h.rng, fun hn => ?_⟩
  obtain ⟨b, o, e, hlt, hc⟩ := h.cells hn
  exact ⟨b, o, e, hlt, fun i hi => (World.cell?_of_block (setRow_other w g b cs (by omega))).trans (hc i hi)⟩
/-- A new seed or a new place in the code. -/
theorem Src.put {w w' : World} {X : Nat} {A : Option Addr} {zs : List Int} (h : Src w X A zs) (hk : Kp X w w') {k : Nat} {sd : Int} {c : Nat} (h1 : k ≤ zs.length) (h2 : 0 ≤ sd) (h3 : sd < 2147483647)
    (hB : Blk w' X 125 #[.slice A zs.length c, .int .i64 k, .int .i64 sd]) : Src w' X A zs := by
  have hX := h.lt
  refine ⟨h.len, ⟨k, sd, c, h1, h2, h3, hB⟩, h.rng, fun hn => ?_⟩
  obtain ⟨b, o, e, hlt, hc⟩ := h.cells hn
  exact ⟨b, o, e, hlt, fun i hi => (World.cell?_of_block (hk.block b (by omega) (by simp; omega))).trans (hc i hi)⟩
/-- A call that draws: the source is there as before, and nothing else that was there has turned. -/
structure Dr (X : Nat) (A : Option Addr) (zs : List Int) (w w' : World) : Prop where
  src : Src w' X A zs
  kp : Kp X w w'
/-- A call that draws a number from 0 to n - 1. -/
def DrI (X : Nat) (A : Option Addr) (zs : List Int) (n : Int) (w : World) (e : Ending) (w' : World) : Prop := ∃ x : Int, e = .returned (.int .i64 x) ∧ 0 ≤ x ∧ x < n ∧ Dr X A zs w w'
/-- A call that draws some number. -/
def DrZ (X : Nat) (A : Option Addr) (zs : List Int) (w : World) (e : Ending) (w' : World) : Prop := ∃ x : Int, e = .returned (.int .i64 x) ∧ Dr X A zs w w'
/-- A call that draws one of the numbers of a row. -/
def DrP (X : Nat) (A : Option Addr) (zs : List Int) (cs : Array Value) (w : World) (e : Ending) (w' : World) : Prop := ∃ (x : Int) (i : Nat), i < cs.size ∧ cs[i]? = some (.int .i64 x) ∧ e = .returned (.int .i64 x) ∧ Dr X A zs w w'
/-- Is this an integer of 64 bits? -/
def isI : Value → Bool
  | .int .i64 _ => true
  | _ => false
theorem isI_at {cs : Array Value} (h : cs.all isI = true) {i : Nat} (hi : i < cs.size) : ∃ z, cs[i]? = some (.int .i64 z) := by
  rw [Array.all_eq_true] at h
  have := h i hi
  rw [Array.getElem?_eq_getElem hi]
  revert this
  generalize cs[i] = v
  intro hv
  unfold isI at hv
  split at hv
  · exact ⟨_, rfl⟩
  · cases hv
/-! A store into a part of a block: afterwards the block is known whole, and nothing else has turned. -/
def setL : Array Value → Nat → List Value → Array Value
  | cs, _, [] => cs
  | cs, o, v :: r => setL (cs.setIfInBounds o v) (o + 1) r
theorem Blk.setCells {g : Nat} {t : TypeId} (l : List Value) : ∀ (o : Nat) (cs : Array Value) (w : World), Blk w g t cs → Blk (w.setCells g o l) g t (setL cs o l) := by
  induction l with
  | nil => intro o cs w h; exact h
  | cons v r ih => intro o cs w h; exact ih _ _ _ (h.set_ o v)
theorem Kp.setCells {X g : Nat} {a : World} (hg : a.heap.size ≤ g ∨ g = X) (l : List Value) : ∀ (o : Nat) (w : World), Kp X a w → Kp X a (w.setCells g o l) := by
  induction l with
  | nil => intro o w h; exact h
  | cons v r ih =>
    intro o w h
    rcases hg with hg | rfl
    · exact ih _ _ (Kp.set_ (p := ⟨g, o, none⟩) hg v h)
    · exact ih _ _ (Kp.setX o v h)
theorem run_storeVar_part {P : Program} (w : World) (b o : Nat) (ty : TypeId) (v : Value) (cells : Array Value) (hv : v.cells = cells) (ht : w.there b o cells.size) (hi : (P.info? ty).map (·.size) = some cells.size) (h1 : cells.all (·.oneCell') = true) :
    (storeVar ty ⟨b, o, none⟩ v).run P w = .ok () (w.setCells b o cells.toList) := by
  have := run_storeVar_mid w b o ty cells ht hi h1
  have e : (storeVar ty ⟨b, o, none⟩ v) = (storeVar ty ⟨b, o, none⟩ (.agg cells)) := by simp only [storeVar, hv]; rfl
  rw [e]; exact this
theorem wpList_store_part {P : Program} {ops : Array Oper} {rest : List Oper} {op : Oper} {a : Act} {w : World} {Q : Exit → Act → World → Prop} (ty : TypeId) (x y : Operand) (b o : Nat) (v : Value) (cells : Array Value) {old : Array Value} {t : TypeId} (hB : Blk w b t old)
    (hgd : op.guard = none) (ho : op.op = .store ty x y) (hx : a.eval x = .pointer (some ⟨b, o, none⟩)) (hy : a.eval y = v) (hv : v.cells = cells) (hi : (P.info? ty).map (·.size) = some cells.size) (h1 : cells.all (·.oneCell') = true) (hl : o + cells.size ≤ old.size)
    (h : ∀ w', Blk w' b t (setL old o cells.toList) → Kp b w w' → wpList P ops Q rest (a.put op.dst undef) w') : wpList P ops Q (op :: rest) a w := by
  refine wpList_plain hgd fun _ hK => ?_
  unfold Oper.wp execOp
  have ht : w.there b o cells.size := fun j hj => ⟨by rw [hB.cell]; simp; omega, hB.frozen _⟩
  simp only [ho, hx, hy, Instr.storeAt, Instr.sureAddr, Sem.run_bind, Sem.run_pure, Result.andThen_ok, run_storeVar_part w b o ty v cells hv ht hi h1]
  exact hK _ _ (h _ (Blk.setCells _ _ _ _ hB) (Kp.setCells (.inr rfl) _ _ _ (Kp.refl _ _)))
theorem step_store_part {P : Program} {ops : Array Oper} {op : Oper} {a : Act} {w : World} {K : Act → World → Prop} {Q : Exit → Act → World → Prop} {E : Prop} (ty : TypeId) (x y : Operand) (b o : Nat) (v : Value) (cells : Array Value) {old : Array Value} {t : TypeId} (hB : Blk w b t old)
    (hgd : op.guard = none) (hd : op.dst = none) (ho : op.op = .store ty x y) (hx : a.eval x = .pointer (some ⟨b, o, none⟩)) (hy : a.eval y = v) (hv : v.cells = cells) (hi : (P.info? ty).map (·.size) = some cells.size) (h1 : cells.all (·.oneCell') = true) (hl : o + cells.size ≤ old.size)
    (h : ∀ w', Blk w' b t (setL old o cells.toList) → Kp b w w' → K a w') : if Region.wanted op (yielded ops a.tmps) = true then Oper.wp P op a w K Q else E := by
  have hw : Region.wanted op (yielded ops a.tmps) = true := by simp [Region.wanted, hgd]
  rw [if_pos hw]
  unfold Oper.wp execOp
  have ht : w.there b o cells.size := fun j hj => ⟨by rw [hB.cell]; simp; omega, hB.frozen _⟩
  simp only [ho, hx, hy, Instr.storeAt, Instr.sureAddr, Sem.run_bind, Sem.run_pure, Result.andThen_ok, run_storeVar_part w b o ty v cells hv ht hi h1]
  show K (a.put op.dst undef) _
  rw [hd]
  exact h _ (Blk.setCells _ _ _ _ hB) (Kp.setCells (.inr rfl) _ _ _ (Kp.refl _ _))
/-- Facts over a step that turned block g alone, and that is not the source's. -/
theorem Src.kpg {w w' : World} {X g : Nat} {A : Option Addr} {zs : List Int} (k : Kp g w w') (hg : X < g) (h : Src w X A zs) : Src w' X A zs := by
  have hX := h.lt
  obtain ⟨j, sd, c, h1, h2, h3, hB⟩ := h.blk
  refine ⟨h.len, ⟨j, sd, c, h1, h2, h3, hB.kp k (by omega)⟩, h.rng, fun hn => ?_⟩
  obtain ⟨b, o, e, hlt, hc⟩ := h.cells hn
  exact ⟨b, o, e, hlt, fun i hi => (World.cell?_of_block (k.block b (by omega) (by simp; omega))).trans (hc i hi)⟩
/-- A block that holds the row. -/
theorem Own.of_cells {w : World} {B q c : Nat} {T : TypeId} {cur : Array Value} {zs : List Int} (hB : Blk w q T cur) (hs : cur.size = c) (ht : cur.toList.take zs.length = zs.map (Value.int .i64)) (hq : B ≤ q) (hc : zs.length ≤ c) (hm : c ≤ maxLen) : Own w B T (.slice (some ⟨q, 0, none⟩) zs.length c) zs :=
  ⟨by simp, .inr ⟨q, c, cur, rfl, hq, hB, hc, hm, by omega, by rw [Nat.mul_one]; exact ht⟩⟩
theorem Own.of_blk {w : World} {B q : Nat} {T : TypeId} {zs : List Int} (hB : Blk w q T (icells zs)) (hq : B ≤ q) (hm : zs.length ≤ maxLen) : Own w B T (.slice (some ⟨q, 0, none⟩) zs.length zs.length) zs :=
  Own.of_cells hB (icells_size zs) (by rw [show (icells zs).toList = zs.map (Value.int .i64) from rfl]; exact List.take_of_length_le (by simp)) hq (Nat.le_refl _) hm
theorem Src.kpg2 {w0 Wc w' : World} {X g : Nat} {A : Option Addr} {zs : List Int} (h : Src w0 X A zs) (hb : Below w0.heap.size w0 Wc) (k : Kp g Wc w') (hg : X < g) : Src w' X A zs := Src.kpg k hg (Src.step hb h)
theorem Kp.toBel {X : Nat} {w w' : World} (h : Kp X w w') (hX : w.heap.size ≤ X) : Below w.heap.size w w' := ⟨h.os, h.tape, h.output, h.size, fun k hk => h.block k hk (by simp; omega)⟩
theorem Ints.cell {w : World} {g : Nat} {zs : List Int} (h : Ints w (some ⟨g, 0, none⟩) zs) (i : Nat) (hi : i < zs.length) : w.cell? ⟨g, i, none⟩ = some (.int .i64 (zs.getD i 0)) := by
  obtain ⟨b, o, e, _, hc⟩ := h (by omega)
  injection e with e
  injection e with e1 e2
  subst e1 e2
  have := hc i hi
  rwa [Nat.zero_add] at this
theorem Ints.kpB {w w' : World} {b g : Nat} {zs : List Int} (h : Ints w (some ⟨b, 0, none⟩) zs) (k : Kp g w w') (hn : b ≠ g) : Ints w' (some ⟨b, 0, none⟩) zs := fun h0 => by
  obtain ⟨b', o, e, hlt, hc⟩ := h h0
  injection e with e
  injection e with e1 e2
  subst e1 e2
  exact ⟨b, 0, rfl, Nat.lt_of_lt_of_le hlt k.size, fun i hi => (World.cell?_of_block (k.block b hlt (by simpa using hn))).trans (hc i hi)⟩
theorem Bel.ka {B : Nat} {w w0 Wc w1 : World} (h : Below B w w0) (k : Below Wc.heap.size Wc w1) (h2 : Below w0.heap.size w0 Wc) : Below w0.heap.size w0 Wc := h2
theorem Bel.ka0 {B : Nat} {w w0 Wc : World} (h : Below B w w0) (h2 : Below w0.heap.size w0 Wc) : Below w0.heap.size w0 Wc := h2
theorem Kp.kab {B g : Nat} {w w0 Wc w1 : World} (h : Below B w w0) (k : Kp g Wc w1) (h2 : Below w0.heap.size w0 Wc) : Below w0.heap.size w0 Wc := h2
theorem Own.kpB {w w' : World} {B b n c g : Nat} {T : TypeId} {zs : List Int} (h : Own w B T (.slice (some ⟨b, 0, none⟩) n c) zs) (k : Kp g w w') (hn : b ≠ g) : Own w' B T (.slice (some ⟨b, 0, none⟩) n c) zs :=
  World.ownsRow.kept h k (.inr (by simpa [Value.ownBlock] using hn))
theorem Kp.ka {w w0 Wc w1 : World} {X g : Nat} (h : Kp X w w0) (k : Kp g Wc w1) (h2 : Kp X w0 Wc) : Kp X w0 Wc := h2
theorem Kp.ka0 {w w0 Wc : World} {X : Nat} (h : Kp X w w0) (h2 : Kp X w0 Wc) : Kp X w0 Wc := h2
/-! The results of a function, one by one. -/
def resF (tmps : Array Value) : ResultVar → Sem Value
  | .tmp t => pure (tmps.getD t undef)
  | .cell a t => do loadVar t (← asAddr (tmps.getD a undef))
theorem results_resF (fn : Func) (tmps : Array Value) : results fn tmps = (do
    let vs ← fn.results.mapM (resF tmps)
    pure (if h : vs.size = 1 then vs[0] else .tuple vs)) := rfl
theorem resF_tmp {P : Program} {tmps : Array Value} {w : World} (t : Tmp) {v : Value} (h : tmps.getD t undef = v) : (resF tmps (.tmp t)).run P w = .ok v w := by simp [resF, ← h]
theorem resF_cell {P : Program} {tmps : Array Value} {w : World} {p : Tmp} {ty : TypeId} {g : Nat} {t : TypeId} {cs : Array Value} {fs : Array Field} (hB : Blk w g t cs) (hu : P.underlying ty = some (.struct fs)) (hi : (P.info? ty).map (·.size) = some cs.size)
    (hp : tmps.getD p undef = .pointer (some ⟨g, 0, none⟩)) : (resF tmps (.cell p ty)).run P w = .ok (.agg cs) w := by
  have hp' : tmps[p]?.getD undef = .pointer (some ⟨g, 0, none⟩) := by simpa using hp
  simp [resF, hp', asAddr, run_loadVar_row w g t ty cs (0, 0) _ hB hu rfl hi]
theorem results_2 {P : Program} {fn : Func} {tmps : Array Value} {w : World} {r1 r2 : ResultVar} {v1 v2 : Value} (h : fn.results = #[r1, r2]) (h1 : (resF tmps r1).run P w = .ok v1 w) (h2 : (resF tmps r2).run P w = .ok v2 w) : (results fn tmps).run P w = .ok (.tuple #[v1, v2]) w := by
  rw [results_resF, h]; simp [h1, h2]
theorem results_3 {P : Program} {fn : Func} {tmps : Array Value} {w : World} {r1 r2 r3 : ResultVar} {v1 v2 v3 : Value} (h : fn.results = #[r1, r2, r3]) (h1 : (resF tmps r1).run P w = .ok v1 w) (h2 : (resF tmps r2).run P w = .ok v2 w) (h3 : (resF tmps r3).run P w = .ok v3 w) : (results fn tmps).run P w = .ok (.tuple #[v1, v2, v3]) w := by
  rw [results_resF, h]; simp [h1, h2, h3]
theorem results_4 {P : Program} {fn : Func} {tmps : Array Value} {w : World} {r1 r2 r3 r4 : ResultVar} {v1 v2 v3 v4 : Value} (h : fn.results = #[r1, r2, r3, r4]) (h1 : (resF tmps r1).run P w = .ok v1 w) (h2 : (resF tmps r2).run P w = .ok v2 w) (h3 : (resF tmps r3).run P w = .ok v3 w) (h4 : (resF tmps r4).run P w = .ok v4 w) : (results fn tmps).run P w = .ok (.tuple #[v1, v2, v3, v4]) w := by
  rw [results_resF, h]; simp [h1, h2, h3, h4]
theorem results_5 {P : Program} {fn : Func} {tmps : Array Value} {w : World} {r1 r2 r3 r4 r5 : ResultVar} {v1 v2 v3 v4 v5 : Value} (h : fn.results = #[r1, r2, r3, r4, r5]) (h1 : (resF tmps r1).run P w = .ok v1 w) (h2 : (resF tmps r2).run P w = .ok v2 w) (h3 : (resF tmps r3).run P w = .ok v3 w) (h4 : (resF tmps r4).run P w = .ok v4 w) (h5 : (resF tmps r5).run P w = .ok v5 w) : (results fn tmps).run P w = .ok (.tuple #[v1, v2, v3, v4, v5]) w := by
  rw [results_resF, h]; simp [h1, h2, h3, h4, h5]
theorem results_6 {P : Program} {fn : Func} {tmps : Array Value} {w : World} {r1 r2 r3 r4 r5 r6 : ResultVar} {v1 v2 v3 v4 v5 v6 : Value} (h : fn.results = #[r1, r2, r3, r4, r5, r6]) (h1 : (resF tmps r1).run P w = .ok v1 w) (h2 : (resF tmps r2).run P w = .ok v2 w) (h3 : (resF tmps r3).run P w = .ok v3 w) (h4 : (resF tmps r4).run P w = .ok v4 w) (h5 : (resF tmps r5).run P w = .ok v5 w) (h6 : (resF tmps r6).run P w = .ok v6 w) : (results fn tmps).run P w = .ok (.tuple #[v1, v2, v3, v4, v5, v6]) w := by
  rw [results_resF, h]; simp [h1, h2, h3, h4, h5, h6]
theorem Src.ka {w0 Wc w1 : World} {X g : Nat} {A : Option Addr} {zs : List Int} (h : Src w0 X A zs) (k : Kp g Wc w1) (h2 : Kp X w0 Wc) : Kp X w0 Wc := h2
theorem Src.ka0 {w0 Wc : World} {X : Nat} {A : Option Addr} {zs : List Int} (h : Src w0 X A zs) (h2 : Kp X w0 Wc) : Kp X w0 Wc := h2
theorem Blk.kp2 {X g : Nat} {w0 Wc w1 : World} {b : Nat} {t : TypeId} {cs : Array Value} (k : Kp X w0 Wc) (k2 : Kp g Wc w1) (hn : b ≠ X) (h2 : b ≠ g) (h : Blk w0 b t cs) : Blk w1 b t cs := (h.kp k hn).kp k2 h2
theorem Own.kp2 {X g : Nat} {w0 Wc w1 : World} {B : Nat} {T : TypeId} {v : Value} {zs : List Int} (k : Kp X w0 Wc) (k2 : Kp g Wc w1) (hn : X < B) (h2 : g < B) (h : Own w0 B T v zs) : Own w1 B T v zs := (h.kp k hn).kp k2 h2
theorem OwnP.kp2 {X g : Nat} {w0 Wc w1 : World} {B : Nat} {T : TypeId} {v : Value} {zs : List (Int × Int)} (k : Kp X w0 Wc) (k2 : Kp g Wc w1) (hn : X < B) (h2 : g < B) (h : OwnP w0 B T v zs) : OwnP w1 B T v zs := (h.kp k hn).kp k2 h2
theorem Own.kp3 {X g : Nat} {w0 Wc w1 : World} {B b n c : Nat} {T : TypeId} {zs : List Int} (k : Kp X w0 Wc) (k2 : Kp g Wc w1) (hn : b ≠ X) (h2 : b ≠ g) (h : Own w0 B T (.slice (some ⟨b, 0, none⟩) n c) zs) : Own w1 B T (.slice (some ⟨b, 0, none⟩) n c) zs :=
  World.ownsRow.kept (World.ownsRow.kept h k (.inr (by simpa [Value.ownBlock] using hn))) k2 (.inr (by simpa [Value.ownBlock] using h2))
theorem OwnP.kp3 {X g : Nat} {w0 Wc w1 : World} {B b n c : Nat} {T : TypeId} {zs : List (Int × Int)} (k : Kp X w0 Wc) (k2 : Kp g Wc w1) (hn : b ≠ X) (h2 : b ≠ g) (h : OwnP w0 B T (.slice (some ⟨b, 0, none⟩) n c) zs) : OwnP w1 B T (.slice (some ⟨b, 0, none⟩) n c) zs :=
  World.ownsRow.kept (World.ownsRow.kept h k (.inr (by simpa [Value.ownBlock] using hn))) k2 (.inr (by simpa [Value.ownBlock] using h2))
theorem Kp.own {X g : Nat} {a w w' : World} (k : Kp g w w') (hg : a.heap.size ≤ g) (h : Kp X a w) : Kp X a w' :=
  ⟨k.os.trans h.os, k.tape.trans h.tape, k.output.trans h.output, Nat.le_trans h.size k.size, fun i hi hne => (k.block i (Nat.lt_of_lt_of_le hi h.size) (by simp; omega)).trans (h.block i hi hne)⟩
end Go.Proofs.YtpmcgicopogbhaaGreat
