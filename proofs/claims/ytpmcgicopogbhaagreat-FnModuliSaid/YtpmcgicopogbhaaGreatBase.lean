/- The vocabulary of the proofs: what a call leaves of memory, the pure functions of numbers, and plain lemmas about them. No conditions. -/
import Derived.WalkKit
import Derived.Lib.Hide
import Derived.Deep.Draws
namespace Go.Proofs.YtpmcgicopogbhaaGreat
open Go.RowKit
set_option linter.unusedVariables false

theorem bel {W w1 : World} (hb : Below W.heap.size W w1) : (∀ b o, b < W.heap.size → w1.cell? ⟨b, o, none⟩ = W.cell? ⟨b, o, none⟩) ∧ (∀ b o, b < W.heap.size → w1.frozen? ⟨b, o, none⟩ = W.frozen? ⟨b, o, none⟩) ∧ (∀ i, i < W.heap.size → i < w1.heap.size) :=
  ⟨fun b o h => hb.cell (p := ⟨b, o, none⟩) h, fun b o h => hb.frozen (p := ⟨b, o, none⟩) h, fun _ h => Nat.lt_of_lt_of_le h hb.size⟩
theorem Bel.alloc {w W : World} (h : Below w.heap.size w W) (o : Obj) : Below w.heap.size w (W.alloc o) := h.alloc h.size o
theorem Bel.step {w W w2 : World} (h : Below W.heap.size W w2) (h' : Below w.heap.size w W) : Below w.heap.size w w2 := h'.trans (h.mono h'.size)
theorem Bel.drewN {w W : World} (h : Below w.heap.size w W) (n : Nat) : Below w.heap.size w (W.drewN n) := ⟨h.os, h.tape, h.output, h.size, h.block⟩
theorem Bel.setNew {w W : World} (h : Below w.heap.size w W) {b o : Nat} (hb : w.heap.size ≤ b) (u : Value) : Below w.heap.size w (W.setCell ⟨b, o, none⟩ u) := h.setCell hb u

/-! Numbers -/
def inB (n lo hi : Int) : Bool := decide (lo ≤ n ∧ n ≤ hi)
theorem inB_iff {n lo hi : Int} : inB n lo hi = true ↔ lo ≤ n ∧ n ≤ hi := by simp [inB]
theorem inB_not {n lo hi : Int} : inB n lo hi = false ↔ n < lo ∨ hi < n := by simp [inB]; omega

theorem ediv_unique (a b q : Int) (hb : 0 < b) (h1 : b * q ≤ a) (h2 : a < b * q + b) : a / b = q := by
  have h3 : a / b < q + 1 := Int.ediv_lt_of_lt_mul hb (by rw [Int.add_mul, Int.mul_comm q b]; omega)
  have h4 : q ≤ a / b := Int.le_ediv_of_mul_le hb (by rw [Int.mul_comm]; exact h1)
  omega
theorem tmod_facts (a b : Int) (hb : b ≠ 0) : a = b * a.tdiv b + a.tmod b ∧ (0 ≤ a → 0 ≤ a.tmod b) ∧ (a ≤ 0 → a.tmod b ≤ 0) ∧ (a.tmod b).natAbs < b.natAbs := by
  refine ⟨(Int.mul_tdiv_add_tmod a b).symm, fun h => Int.tmod_nonneg b h, fun h => ?_, ?_⟩
  · have h1 := Int.tmod_nonneg b (show 0 ≤ -a by omega)
    rw [Int.neg_tmod] at h1
    omega
  · rw [Int.natAbs_tmod]; exact Nat.mod_lt _ (by omega)
theorem fdiv_unique (a b q : Int) (h : (0 < b ∧ b * q ≤ a ∧ a < b * q + b) ∨ (b < 0 ∧ a ≤ b * q ∧ b * q + b < a)) : a.fdiv b = q := by
  rcases h with ⟨h0, h1, h2⟩ | ⟨h0, h1, h2⟩
  · rw [Int.fdiv_eq_ediv_of_nonneg a (b := b) (by omega)]
    exact ediv_unique a b q h0 h1 h2
  · have e := Int.neg_fdiv_neg a b
    rw [← e, Int.fdiv_eq_ediv_of_nonneg _ (by omega)]
    exact ediv_unique _ _ q (by omega) (by rw [Int.neg_mul]; omega) (by rw [Int.neg_mul]; omega)
theorem fdiv_dn (a b : Int) (hb : b ≠ 0) (h1 : a.tmod b ≠ 0) (h2 : decide (a < 0) ≠ decide (b < 0)) : a.fdiv b = a.tdiv b - 1 := by
  obtain ⟨e, p, n, l⟩ := tmod_facts a b hb
  apply fdiv_unique a b _
  have h3 : b * (a.tdiv b - 1) = b * a.tdiv b - b := by rw [Int.mul_sub, Int.mul_one]
  by_cases ha : a < 0 <;> by_cases hb' : b < 0 <;> simp [ha, hb'] at h2 <;> omega
theorem fdiv_eq (a b : Int) (hb : b ≠ 0) (h1 : a.tmod b = 0 ∨ decide (a < 0) = decide (b < 0)) : a.fdiv b = a.tdiv b := by
  obtain ⟨e, p, n, l⟩ := tmod_facts a b hb
  apply fdiv_unique a b _
  by_cases ha : a < 0 <;> by_cases hb' : b < 0 <;> simp [ha, hb'] at h1 <;> omega
theorem tdiv_bd (a b B : Int) (h1 : -B ≤ a) (h2 : a ≤ B) : -B ≤ a.tdiv b ∧ a.tdiv b ≤ B := by
  have h := Int.natAbs_tdiv_le_natAbs a b
  omega
theorem ediv_bd (a b B : Int) (hb : 0 < b) (h1 : -B ≤ a) (h2 : a ≤ B) : -B ≤ a / b ∧ a / b ≤ B := by
  have hB : 0 ≤ B := by omega
  have hm : B ≤ B * b := by have := Int.mul_le_mul_of_nonneg_left (show 1 ≤ b by omega) hB; omega
  constructor
  · exact Int.le_ediv_of_mul_le hb (by rw [Int.neg_mul]; omega)
  · have := Int.ediv_lt_of_lt_mul hb (show a < (B + 1) * b by rw [Int.add_mul]; omega)
    omega
theorem fdiv_bd (a b B : Int) (h1 : -B ≤ a) (h2 : a ≤ B) : -B ≤ a.fdiv b ∧ a.fdiv b ≤ B := by
  rcases Int.lt_trichotomy b 0 with h | h | h
  · rw [← Int.neg_fdiv_neg a b, Int.fdiv_eq_ediv_of_nonneg _ (by omega)]
    exact ediv_bd _ _ B (by omega) (by omega) (by omega)
  · subst h; simp; omega
  · rw [Int.fdiv_eq_ediv_of_nonneg _ (by omega)]
    exact ediv_bd _ _ B h h1 h2

/-- The quotient, rounded down. -/
def Fl (a b : Int) : Int := a.fdiv b
/-- The quotient, rounded up. -/
def Cl (a b : Int) : Int := -Fl (-a) b
/-- The nearest integer to a quotient. -/
def Nr (a b : Int) : Int := Fl (2 * a + b) (2 * b)
def Ab (a : Int) : Int := if a < 0 then -a else a
def Gc (a b : Int) : Int := (Int.gcd a b : Nat)
def mn (a b : Int) : Int := if a ≤ b then a else b
def mx (a b : Int) : Int := if a ≤ b then b else a
/-- 10^18 four times over: a bound that no number here comes near to. -/
theorem Fl_pos (a b : Int) (hb : 0 < b) : Fl a b = a / b := Int.fdiv_eq_ediv_of_nonneg a (by omega)
theorem Fl_neg (a b : Int) : Fl (-a) (-b) = Fl a b := Int.neg_fdiv_neg a b
theorem Fl_bd (a b B : Int) (h1 : -B ≤ a) (h2 : a ≤ B) : -B ≤ Fl a b ∧ Fl a b ≤ B := fdiv_bd a b B h1 h2
theorem Cl_bd (a b B : Int) (h1 : -B ≤ a) (h2 : a ≤ B) : -B ≤ Cl a b ∧ Cl a b ≤ B := by
  have := Fl_bd (-a) b B (by omega) (by omega)
  unfold Cl; omega
theorem Nr_bd (a b B : Int) (h1 : -B ≤ 2 * a + b) (h2 : 2 * a + b ≤ B) : -B ≤ Nr a b ∧ Nr a b ≤ B := Fl_bd _ _ B h1 h2
theorem Nr_neg (a b : Int) : Nr (-a) (-b) = Nr a b := by
  unfold Nr
  rw [← Fl_neg (2 * a + b)]
  congr 1 <;> omega
theorem Ab_nat (a : Int) : Ab a = (a.natAbs : Int) := by unfold Ab; split <;> omega
theorem Gc_zero (a : Int) : Gc a 0 = Ab a := by unfold Gc; rw [Int.gcd_zero, Ab_nat]
theorem Gc_step (a b : Int) : Gc b (a.tmod b) = Gc a b := by
  unfold Gc
  rw [Int.gcd_eq_natAbs_gcd_natAbs, Int.gcd_eq_natAbs_gcd_natAbs, Int.natAbs_tmod, Nat.gcd_comm b.natAbs, ← Nat.gcd_rec, Nat.gcd_comm]
theorem Gc_Ab (a b : Int) : Gc (Ab a) (Ab b) = Gc a b := by
  unfold Gc
  rw [Int.gcd_eq_natAbs_gcd_natAbs, Int.gcd_eq_natAbs_gcd_natAbs, Ab_nat, Ab_nat]; simp
theorem Gc_nonneg (a b : Int) : 0 ≤ Gc a b := by unfold Gc; omega
theorem mul_bd (a b A B : Int) (ha1 : -A ≤ a) (ha2 : a ≤ A) (hb1 : -B ≤ b) (hb2 : b ≤ B) : -(A * B) ≤ a * b ∧ a * b ≤ A * B := by
  have h : (a * b).natAbs ≤ A.natAbs * B.natAbs := by
    rw [Int.natAbs_mul]; exact Nat.mul_le_mul (by omega) (by omega)
  have e : ((A.natAbs * B.natAbs : Nat) : Int) = A * B := by
    rw [Int.natCast_mul, Int.natAbs_of_nonneg (by omega), Int.natAbs_of_nonneg (by omega)]
  omega
theorem ret_int {k : IntKind} {a b : Int} (h : a = b) : Ending.returned (.int k a) = .returned (.int k b) := by rw [h]
theorem ret_bool {a b : Bool} (h : a = b) : Ending.returned (.bool a) = .returned (.bool b) := by rw [h]

theorem Fl_floor_pos (a b : Int) (hb : 0 < b) : (a.tmod b < 0 → Fl a b = a.tdiv b - 1) ∧ (0 ≤ a.tmod b → Fl a b = a.tdiv b) := by
  obtain ⟨e, p, n, l⟩ := tmod_facts a b (by omega)
  constructor
  · intro h; exact fdiv_dn a b (by omega) (by omega) (by
      have h1 : a < 0 := by
        rcases Int.lt_or_le a 0 with h2 | h2
        · exact h2
        · have := p h2; omega
      have h2 : ¬ b < 0 := by omega
      simp [h1, h2])
  · intro h; refine fdiv_eq a b (by omega) ?_
    by_cases h0 : a.tmod b = 0
    · exact .inl h0
    · refine .inr ?_
      have h1 : ¬ a < 0 := by intro h2; have := n (by omega); omega
      have h2 : ¬ b < 0 := by omega
      simp [h1, h2]
theorem Fl_floor_neg (a b : Int) (hb : b < 0) : (0 < a.tmod b → Fl a b = a.tdiv b - 1) ∧ (a.tmod b ≤ 0 → Fl a b = a.tdiv b) := by
  have h := Fl_floor_pos (-a) (-b) (by omega)
  rw [Fl_neg] at h
  simp only [Int.neg_tmod, Int.tmod_neg, Int.neg_tdiv, Int.tdiv_neg, Int.neg_neg] at h
  exact ⟨fun k => h.1 (by omega), fun k => h.2 (by omega)⟩

/-! Memory -/
/-- Block g holds just these cells, none of them frozen. -/
def Blk (w : World) (g : Nat) (t : TypeId) (cs : Array Value) : Prop := w.heap[g]? = some (.cells cs t (0, 0))
theorem Blk.lt {w : World} {g : Nat} {t : TypeId} {cs : Array Value} (h : Blk w g t cs) : g < w.heap.size := by
  rcases Nat.lt_or_ge g w.heap.size with hlt | hge
  · exact hlt
  · unfold Blk at h; rw [Array.getElem?_eq_none hge] at h; cases h
theorem Blk.cell {w : World} {g : Nat} {t : TypeId} {cs : Array Value} (h : Blk w g t cs) (i : Nat) : w.cell? ⟨g, i, none⟩ = cs[i]? := cell_of_row w g i cs t (0, 0) h
theorem Blk.frozen {w : World} {g : Nat} {t : TypeId} {cs : Array Value} (h : Blk w g t cs) (i : Nat) : w.frozen? ⟨g, i, none⟩ = false := by
  unfold Blk at h
  simp [World.frozen?, h]
theorem Blk.step {W w' : World} {g : Nat} {t : TypeId} {cs : Array Value} (hb : Below W.heap.size W w') (h : Blk W g t cs) : Blk w' g t cs := (hb.block g h.lt).trans h
theorem Blk.alloc {w : World} {g : Nat} {t : TypeId} {cs : Array Value} (o : Obj) (h : Blk w g t cs) : Blk (w.alloc o) g t cs := Blk.step (Bel.alloc (Below.refl _ _) o) h
theorem Blk.drewN {w : World} {g : Nat} {t : TypeId} {cs : Array Value} (n : Nat) (h : Blk w g t cs) : Blk (w.drewN n) g t cs := h
theorem Blk.drew {w : World} {g : Nat} {t : TypeId} {cs : Array Value} (h : Blk w g t cs) : Blk w.drew g t cs := h
theorem Blk.set_ {w : World} {g : Nat} {t : TypeId} {cs : Array Value} (h : Blk w g t cs) (i : Nat) (u : Value) : Blk (w.setCell ⟨g, i, none⟩ u) g t (cs.setIfInBounds i u) := by
  unfold Blk at h ⊢
  simp [World.setCell, Array.getElem?_modify, h]
theorem Blk.far {w : World} {g : Nat} {t : TypeId} {cs : Array Value} {p : Addr} (u : Value) (hp : g ≠ p.block) (h : Blk w g t cs) : Blk (w.setCell p u) g t cs := (Below.heap_setCell w p u g hp).trans h
theorem Blk.new (w : World) (t : TypeId) (cs : Array Value) : Blk (w.alloc (.cells cs t)) w.heap.size t cs := by
  unfold Blk
  show (w.heap.push _)[w.heap.size]? = _
  simp

/-- A slice of integers that reads as a list; a slice of no elements may be nil. -/
def Ints (w : World) (A : Option Addr) (zs : List Int) : Prop :=
  0 < zs.length → ∃ b o, A = some ⟨b, o, none⟩ ∧ b < w.heap.size ∧ ∀ i, i < zs.length → w.cell? ⟨b, o + i, none⟩ = some (.int .i64 (zs.getD i 0))
theorem Ints.step {W w' : World} {A : Option Addr} {zs : List Int} (hb : Below W.heap.size W w') (h : Ints W A zs) : Ints w' A zs := fun hn => by
  obtain ⟨b, o, e, hlt, hc⟩ := h hn
  exact ⟨b, o, e, Nat.lt_of_lt_of_le hlt hb.size, fun i hi => (hb.cell (p := ⟨b, o + i, none⟩) hlt).trans (hc i hi)⟩
theorem Ints.alloc {w : World} {A : Option Addr} {zs : List Int} (o : Obj) (h : Ints w A zs) : Ints (w.alloc o) A zs := Ints.step (Bel.alloc (Below.refl _ _) o) h
theorem Ints.drewN {w : World} {A : Option Addr} {zs : List Int} (n : Nat) (h : Ints w A zs) : Ints (w.drewN n) A zs := h
theorem Ints.drew {w : World} {A : Option Addr} {zs : List Int} (h : Ints w A zs) : Ints w.drew A zs := h
/-- The cells of a list of integers. -/
def icells (zs : List Int) : Array Value := (zs.map (Value.int .i64)).toArray
theorem icells_get (zs : List Int) (i : Nat) (h : i < zs.length) : (icells zs)[i]? = some (.int .i64 (zs.getD i 0)) := by
  simp [icells, List.getD, List.getElem?_eq_getElem h]
theorem icells_size (zs : List Int) : (icells zs).size = zs.length := by simp [icells]
theorem icells_set (zs : List Int) (i : Nat) (x : Int) : (icells zs).setIfInBounds i (.int .i64 x) = icells (zs.set i x) := by
  simp [icells, List.map_set]
theorem Blk.ints {w : World} {g : Nat} {t : TypeId} {zs : List Int} (h : Blk w g t (icells zs)) : Ints w (some ⟨g, 0, none⟩) zs :=
  fun _ => ⟨g, 0, rfl, h.lt, fun i hi => by rw [Nat.zero_add, h.cell, icells_get zs i hi]⟩
theorem Ints.at_ {w : World} {A : Option Addr} {zs : List Int} (h : Ints w A zs) (k : Nat) (hk : k < zs.length) : ∃ b o, A = some ⟨b, o, none⟩ ∧ b < w.heap.size ∧ w.cell? ⟨b, o + k, none⟩ = some (.int .i64 zs[k]) := by
  obtain ⟨b, o, e, hb, hc⟩ := h (by omega)
  exact ⟨b, o, e, hb, by rw [hc k hk]; simp [List.getD, List.getElem?_eq_getElem hk]⟩
theorem cells_zero (n : Nat) : madeCells #[.int .i64 0] (n * 1) = icells (List.replicate n 0) := by
  unfold madeCells icells
  apply Array.ext
  · simp
  · intro i h1 h2
    simp [Nat.mod_one]
theorem take_set_step (zs : List Int) (n k : Nat) (hk : k < zs.length) (hn : zs.length = n) : ((zs.take k ++ List.replicate (n - k) 0).set k (zs.getD k 0)) = zs.take (k + 1) ++ List.replicate (n - (k + 1)) 0 := by
  apply List.ext_getElem?
  intro i
  have e1 : (zs.take k).length = k := by simp; omega
  have e2 : (zs.take (k + 1)).length = k + 1 := by simp; omega
  rw [List.getElem?_set]
  by_cases h1 : k = i
  · subst h1
    rw [if_pos rfl, if_pos (by simp; omega), List.getElem?_append_left (by omega), List.getElem?_take]
    simp [List.getD, List.getElem?_eq_getElem hk]
  · rw [if_neg h1]
    by_cases h2 : i < k
    · rw [List.getElem?_append_left (by omega), List.getElem?_append_left (by omega), List.getElem?_take, List.getElem?_take]
      simp [h2, show i < k + 1 by omega]
    · rw [List.getElem?_append_right (by omega), List.getElem?_append_right (by omega), e1, e2, List.getElem?_replicate, List.getElem?_replicate]
      congr 1
      simp; omega

/-- A slice of structs of two integers that reads as a list of pairs. -/
def Prs (w : World) (A : Option Addr) (zs : List (Int × Int)) : Prop :=
  0 < zs.length → ∃ b o, A = some ⟨b, o, none⟩ ∧ b < w.heap.size ∧ ∀ i, i < zs.length → w.cell? ⟨b, o + i * 2, none⟩ = some (.int .i64 (zs.getD i (0, 0)).1) ∧ w.cell? ⟨b, o + i * 2 + 1, none⟩ = some (.int .i64 (zs.getD i (0, 0)).2)
theorem Prs.step {W w' : World} {A : Option Addr} {zs : List (Int × Int)} (hb : Below W.heap.size W w') (h : Prs W A zs) : Prs w' A zs := fun hn => by
  obtain ⟨b, o, e, hlt, hc⟩ := h hn
  exact ⟨b, o, e, Nat.lt_of_lt_of_le hlt hb.size, fun i hi => ⟨(hb.cell (p := ⟨b, o + i * 2, none⟩) hlt).trans (hc i hi).1, (hb.cell (p := ⟨b, o + i * 2 + 1, none⟩) hlt).trans (hc i hi).2⟩⟩
theorem Prs.alloc {w : World} {A : Option Addr} {zs : List (Int × Int)} (o : Obj) (h : Prs w A zs) : Prs (w.alloc o) A zs := Prs.step (Bel.alloc (Below.refl _ _) o) h
theorem Prs.drewN {w : World} {A : Option Addr} {zs : List (Int × Int)} (n : Nat) (h : Prs w A zs) : Prs (w.drewN n) A zs := h
theorem Prs.drew {w : World} {A : Option Addr} {zs : List (Int × Int)} (h : Prs w A zs) : Prs w.drew A zs := h
theorem Prs.at_ {w : World} {A : Option Addr} {zs : List (Int × Int)} (h : Prs w A zs) (k : Nat) (hk : k < zs.length) : ∃ b o, A = some ⟨b, o, none⟩ ∧ b < w.heap.size ∧ w.cell? ⟨b, o + k * 2, none⟩ = some (.int .i64 zs[k].1) ∧ w.cell? ⟨b, o + k * 2 + 1, none⟩ = some (.int .i64 zs[k].2) := by
  obtain ⟨b, o, e, hb, hc⟩ := h (by omega)
  have := hc k hk
  simp only [List.getD, List.getElem?_eq_getElem hk, Option.getD_some] at this
  exact ⟨b, o, e, hb, this.1, this.2⟩
/-- A list of pairs, the numbers one behind the other. -/
def flat (zs : List (Int × Int)) : List Int := zs.flatMap fun p => [p.1, p.2]
theorem flat_len (zs : List (Int × Int)) : (flat zs).length = 2 * zs.length := by
  unfold flat
  induction zs with
  | nil => rfl
  | cons p l ih => simp [List.flatMap_cons, ih]; omega
theorem flat_at (zs : List (Int × Int)) (i : Nat) (h : i < zs.length) : (flat zs).getD (i * 2) 0 = (zs.getD i (0, 0)).1 ∧ (flat zs).getD (i * 2 + 1) 0 = (zs.getD i (0, 0)).2 := by
  unfold flat
  induction zs generalizing i with
  | nil => simp at h
  | cons p l ih =>
    cases i with
    | zero => simp [List.getD]
    | succ j =>
      have := ih j (by simpa using h)
      simp only [List.getD] at this
      simp only [List.getD, List.flatMap_cons, List.cons_append, List.nil_append, show (j + 1) * 2 = j * 2 + 1 + 1 by omega, List.getElem?_cons_succ]
      exact this
theorem flat_set (zs : List (Int × Int)) (i : Nat) (x y : Int) : ((flat zs).set (i * 2) x).set (i * 2 + 1) y = flat (zs.set i (x, y)) := by
  unfold flat
  induction zs generalizing i with
  | nil => simp
  | cons p l ih =>
    cases i with
    | zero => simp
    | succ j =>
      simp only [List.flatMap_cons, List.cons_append, List.nil_append, show (j + 1) * 2 = j * 2 + 1 + 1 by omega, List.set_cons_succ]
      rw [ih j]
theorem flat_rep (n : Nat) : flat (List.replicate n (0, 0)) = List.replicate (n * 2) 0 := by
  unfold flat
  induction n with
  | zero => rfl
  | succ m ih => rw [List.replicate_succ, List.flatMap_cons, ih, show (m + 1) * 2 = m * 2 + 1 + 1 by omega, List.replicate_succ, List.replicate_succ]; rfl
theorem Blk.prs {w : World} {g : Nat} {t : TypeId} {zs : List (Int × Int)} (h : Blk w g t (icells (flat zs))) : Prs w (some ⟨g, 0, none⟩) zs := fun _ => by
  refine ⟨g, 0, rfl, h.lt, fun i hi => ?_⟩
  have e := flat_len zs
  have f := flat_at zs i hi
  rw [Nat.zero_add, h.cell, h.cell, icells_get _ _ (by omega), icells_get _ _ (by omega), f.1, f.2]
  exact ⟨rfl, rfl⟩
theorem cells_zero2 (n : Nat) : madeCells #[.int .i64 0, .int .i64 0] (n * 2) = icells (flat (List.replicate n (0, 0))) := by
  rw [flat_rep]
  unfold madeCells icells
  apply Array.ext
  · simp
  · intro i h1 h2
    have : i % 2 = 0 ∨ i % 2 = 1 := by omega
    rcases this with e | e <;> simp [e]
theorem take_set_step2 (zs : List (Int × Int)) (n k : Nat) (hk : k < zs.length) (hn : zs.length = n) : ((zs.take k ++ List.replicate (n - k) (0, 0)).set k (zs.getD k (0, 0))) = zs.take (k + 1) ++ List.replicate (n - (k + 1)) (0, 0) := by
  apply List.ext_getElem?
  intro i
  have e1 : (zs.take k).length = k := by simp; omega
  have e2 : (zs.take (k + 1)).length = k + 1 := by simp; omega
  rw [List.getElem?_set]
  by_cases h1 : k = i
  · subst h1
    rw [if_pos rfl, if_pos (by simp; omega), List.getElem?_append_left (by omega), List.getElem?_take]
    simp [List.getD, List.getElem?_eq_getElem hk]
  · rw [if_neg h1]
    by_cases h2 : i < k
    · rw [List.getElem?_append_left (by omega), List.getElem?_append_left (by omega), List.getElem?_take, List.getElem?_take]
      simp [h2, show i < k + 1 by omega]
    · rw [List.getElem?_append_right (by omega), List.getElem?_append_right (by omega), e1, e2, List.getElem?_replicate, List.getElem?_replicate]
      congr 1
      simp; omega
/-- Two lists that agree at each place below k. -/
def Agree {α : Type} (d : α) (xs ys : List α) (k : Nat) : Prop := ∀ i, i < k → xs.getD i d = ys.getD i d
theorem Agree.zero {α : Type} (d : α) (xs ys : List α) : Agree d xs ys 0 := fun i h => absurd h (by omega)
theorem Agree.succ {α : Type} {d : α} {xs ys : List α} {k : Nat} (h : Agree d xs ys k) (e : xs.getD k d = ys.getD k d) : Agree d xs ys (k + 1) := fun i hi => by
  rcases Nat.lt_or_eq_of_le (Nat.le_of_lt_succ hi) with h1 | h1
  · exact h i h1
  · rw [h1]; exact e
theorem Agree.all {α : Type} {d : α} {xs ys : List α} (h : Agree d xs ys xs.length) (hl : xs.length = ys.length) : xs = ys := by
  apply List.ext_getElem hl
  intro i h1 h2
  have := h i h1
  simpa [List.getD, List.getElem?_eq_getElem h1, List.getElem?_eq_getElem h2] using this
theorem getD_at {α : Type} (d : α) (xs : List α) (k : Nat) (h : k < xs.length) : xs.getD k d = xs[k] := by simp [List.getD, List.getElem?_eq_getElem h]
/-- Equal pairs, as a Bool that the walk does not take apart. -/
def eqP (p q : Int × Int) : Bool := decide (p = q)
/-- Equal lists, as a Bool that the walk does not take apart. -/
def eqL {α : Type} [DecidableEq α] (xs ys : List α) : Bool := decide (xs = ys)

/-- The marks that a statement writes: k0, k0 + 1, .. -/
def marks (n : Nat) (k0 : Int) : List Int := (List.range n).map fun (i : Nat) => k0 + (i : Int)
theorem marks_len (n : Nat) (k0 : Int) : (marks n k0).length = n := by simp [marks]
theorem marks_at (n : Nat) (k0 : Int) (i : Nat) (h : i < n) : (marks n k0).getD i 0 = k0 + i := by
  simp [marks, List.getD, h]
theorem marks_step (zs : List Int) (k : Nat) (k0 : Int) (hk : k < zs.length) : (marks k k0 ++ zs.drop k).set k (k0 + k) = marks (k + 1) k0 ++ zs.drop (k + 1) := by
  have e : marks (k + 1) k0 = marks k k0 ++ [k0 + (k : Int)] := by simp [marks, List.range_succ]
  rw [e, List.set_append_right _ _ (by rw [marks_len]; omega), marks_len, Nat.sub_self, List.drop_eq_getElem_cons hk, List.set_cons_zero, List.append_assoc]
  rfl
theorem grown_set {a w : World} {g : Nat} (h : a.grownBy w (some g)) {o : Nat} (u : Value) : a.grownBy (w.setCell ⟨g, o, none⟩ u) (some g) :=
  ⟨h.os, h.tape, h.output, by simpa [World.setCell] using h.size, fun i hi hne => (Below.heap_setCell w ⟨g, o, none⟩ u i (by rintro rfl; exact hne rfl)).trans (h.block i hi hne)⟩

/-! Calls inside a region that draws its order -/
theorem quiet_left {P : Program} {f : FuncId} {args : Array Value} {w : World} {n : Nat} {v : Value}
    (h : Calls P f args (w.drewN n) fun e w' => e = .returned v ∧ w.drewN n = w') : Calls P f args (w.drewN n) fun e w'' => e = .returned v ∧ ∃ m, w'' = w.drewN m :=
  h.mono fun _ _ ⟨he, hm⟩ => ⟨he, n, hm.symm⟩
theorem quiet_add_left {P : Program} {f : FuncId} {args : Array Value} {w : World} {a n : Nat} {v : Value}
    (h : Calls P f args (w.drewN (a + n)) fun e w' => e = .returned v ∧ w.drewN (a + n) = w') :
    Calls P f args (w.drewN (a + n)) fun e w'' => e = .returned v ∧ ∃ m, w'' = w.drewN (a + m) :=
  h.mono fun _ _ ⟨he, hm⟩ => ⟨he, n, hm.symm⟩
theorem wr64 {x : Int} (h1 : -9000000000000000000 ≤ x) (h2 : x ≤ 9000000000000000000) : IntKind.i64.wrap x = x := by
  rw [IntKind.wrap_i64]; omega

/-- The place of the first element of which p holds, from i on counted; -1 if there is none. -/
def idxF {α : Type} (p : α → Bool) : List α → Nat → Int
  | [], _ => -1
  | x :: l, i => if p x then (i : Int) else idxF p l (i + 1)
theorem idxF_any {α : Type} (p : α → Bool) (l : List α) (i : Nat) : decide (0 ≤ idxF p l i) = l.any p := by
  induction l generalizing i with
  | nil => rfl
  | cons x l ih =>
    unfold idxF
    by_cases h : p x = true
    · simp [h]
    · rw [if_neg h, ih]; simp [h]
theorem idxF_step {α : Type} (p : α → Bool) (l : List α) (k : Nat) (h : k < l.length) : idxF p (l.drop k) k = if p l[k] then (k : Int) else idxF p (l.drop (k + 1)) (k + 1) := by
  rw [List.drop_eq_getElem_cons h, idxF]
theorem idxF_end {α : Type} (p : α → Bool) (l : List α) (k : Nat) (h : l.length ≤ k) : idxF p (l.drop k) k = -1 := by
  rw [List.drop_of_length_le h]; rfl
theorem idxF_bd {α : Type} (p : α → Bool) (l : List α) (i : Nat) : -1 ≤ idxF p l i ∧ idxF p l i < i + l.length + 1 := by
  induction l generalizing i with
  | nil => simp [idxF]; omega
  | cons x l ih =>
    unfold idxF
    have := ih (i + 1)
    simp only [List.length_cons] at this ⊢
    split <;> omega

/-- What is left of a size bound. -/
def szV (l : Int) (n : Nat) : Int := if l < n then -1 else l - n
theorem eqL_self {α : Type} [DecidableEq α] (xs : List α) : eqL xs xs = true := by simp [eqL]
theorem eqP_self (p : Int × Int) : eqP p p = true := by simp [eqP]

/-! Rows of integers that a call makes and appends to -/
/-- The slice value v owns a row from block B on that begins with these integers. -/
def Own (w : World) (B : Nat) (T : TypeId) (v : Value) (zs : List Int) : Prop := w.ownsRow B T 1 v zs.length (zs.map (Value.int .i64))
theorem Own.nil (w : World) (B : Nat) (T : TypeId) : Own w B T (.slice none 0 0) [] := World.ownsRow_nil w B T 1
theorem Own.new (w : World) (B : Nat) (T : TypeId) (h : B ≤ w.heap.size) : Own (w.alloc (.cells #[] T)) B T (.slice (some ⟨w.heap.size, 0, none⟩) 0 0) [] :=
  World.ownsRow_made w #[] 0 h (by unfold maxLen; omega) (by simp)
theorem Own.step {W w' : World} {B : Nat} {T : TypeId} {v : Value} {zs : List Int} (hb : Below W.heap.size W w') (h : Own W B T v zs) : Own w' B T v zs := by
  obtain ⟨h1, h2⟩ := h
  refine ⟨h1, ?_⟩
  rcases h2 with h2 | ⟨g, cap, cur, hv, hg, hh, r⟩
  · exact Or.inl h2
  · exact Or.inr ⟨g, cap, cur, hv, hg, (hb.block g (by
      rcases Nat.lt_or_ge g W.heap.size with hlt | hge
      · exact hlt
      · rw [Array.getElem?_eq_none hge] at hh; cases hh)).trans hh, r⟩
theorem Own.alloc {w : World} {B : Nat} {T : TypeId} {v : Value} {zs : List Int} (o : Obj) (h : Own w B T v zs) : Own (w.alloc o) B T v zs := Own.step (Bel.alloc (Below.refl _ _) o) h
theorem Own.drew {w : World} {B : Nat} {T : TypeId} {v : Value} {zs : List Int} (h : Own w B T v zs) : Own w.drew B T v zs := h
theorem Own.drewN {w : World} {B : Nat} {T : TypeId} {v : Value} {zs : List Int} (n : Nat) (h : Own w B T v zs) : Own (w.drewN n) B T v zs := h
theorem Own.form {w : World} {B : Nat} {T : TypeId} {v : Value} {zs : List Int} (h : Own w B T v zs) : ∃ A c, v = .slice A zs.length c ∧ zs.length ≤ c ∧ c ≤ maxLen ∧ Ints w A zs ∧ (0 < zs.length → ∃ g cur, A = some ⟨g, 0, none⟩ ∧ B ≤ g ∧ Blk w g T cur ∧ cur.size = c ∧ cur.toList.take zs.length = zs.map (Value.int .i64)) := by
  obtain ⟨_, ⟨rfl, h2⟩ | ⟨g, cap, cur, rfl, hg, hh, hn, hm, hs, ht⟩⟩ := h
  · have : zs = [] := List.eq_nil_of_length_eq_zero h2
    subst this
    exact ⟨none, 0, rfl, Nat.le_refl _, by omega, fun h => absurd h (by simp), fun h => absurd h (by simp)⟩
  · rw [Nat.mul_one] at hs ht
    have hB : Blk w g T cur := hh
    refine ⟨some ⟨g, 0, none⟩, cap, rfl, hn, hm, fun _ => ⟨g, 0, rfl, hB.lt, fun i hi => ?_⟩, fun _ => ⟨g, cur, rfl, hg, hB, hs, ht⟩⟩
    rw [Nat.zero_add, hB.cell]
    have e : cur.toList[i]? = (zs.map (Value.int .i64))[i]? := by
      rw [← ht, List.getElem?_take, if_pos hi]
    rw [← Array.getElem?_toList, e]
    simp [List.getD, List.getElem?_eq_getElem hi]
theorem Own.ge {w : World} {B : Nat} {T : TypeId} {v : Value} {zs : List Int} (h : Own w B T v zs) : ∀ k, v.ownBlock = some k → B ≤ k := fun k hk => (h.lt k hk).1
theorem wpList_app1 {P : Program} {w : World} {ops : Array Oper} {rest : List Oper} {o : Oper} {a : Act} {Q : Exit → Act → World → Prop} (hgd : o.guard = none) (s x : Operand) (t : TypeId)
    (ho : o.op = .call { callee := .builtin .append, args := #[s, x], argTypes := #[t, t] })
    (B : Nat) (e : TypeId) (ht : P.underlying t = some (.slice e)) (hi : (P.info? e).map (fun i => (i.zero, i.size, i.bytes)) = some (some (.int .i64 0), 1, 8))
    (v : Value) (zs : List Int) (y : Int) (hs : a.eval s = v) (hown : Own w B e v zs) (g : Nat)
    (hx : a.eval x = .slice (some ⟨g, 0, none⟩) 1 1) (hc : w.cell? ⟨g, 0, none⟩ = some (.int .i64 y)) (hl : zs.length ≤ 1000000000) (hbase : B ≤ w.heap.size)
    (h : ∀ v' w', Own w' B e v' (zs ++ [y]) → Below B w w' → wpList P ops Q rest (a.put o.dst v') w') : wpList P ops Q (o :: rest) a w := by
  obtain ⟨i0, hi0, hz0, hz1, hz2⟩ := info_parts hi
  refine wpList_append_own w hgd s x t ho B e i0 _ 1 8 ht hi0 hz0 hz1 hz2 rfl (by omega) v zs.length _ hs hown ⟨g, 0, none⟩ 1 1 [.int .i64 y] hx rfl ?_ (by simp [Value.oneCell']) (by unfold maxLen; omega) (by omega) hbase ?_
  · intro j u hu
    cases j with
    | zero => simp at hu; subst hu; simpa [Addr.add] using hc
    | succ j => simp at hu
  · intro v' w' h1 h2 _
    refine h v' w' ?_ ((Below.refl B w).grown h2 hbase (fun k hk => hown.ge k hk))
    unfold Own
    rw [List.length_append, List.map_append]
    exact h1

theorem len4 {α : Type} {l : List α} (h : l.length = 4) : ∃ a b c d, l = [a, b, c, d] := by
  match l, h with
  | [a, b, c, d], _ => exact ⟨a, b, c, d, rfl⟩
theorem len9 {α : Type} {l : List α} (h : l.length = 9) : ∃ a0 a1 a2 a3 a4 a5 a6 a7 a8, l = [a0, a1, a2, a3, a4, a5, a6, a7, a8] := by
  match l, h with
  | [a0, a1, a2, a3, a4, a5, a6, a7, a8], _ => exact ⟨a0, a1, a2, a3, a4, a5, a6, a7, a8, rfl⟩
theorem Ints.four {w : World} {A : Option Addr} {x0 x1 x2 x3 : Int} (h : Ints w A [x0, x1, x2, x3]) : ∃ b o, A = some ⟨b, o, none⟩ ∧ b < w.heap.size ∧ w.cell? ⟨b, o, none⟩ = some (.int .i64 x0) ∧ w.cell? ⟨b, o + 1, none⟩ = some (.int .i64 x1) ∧ w.cell? ⟨b, o + 2, none⟩ = some (.int .i64 x2) ∧ w.cell? ⟨b, o + 3, none⟩ = some (.int .i64 x3) := by
  obtain ⟨b, o, e, hb, hc⟩ := h (by simp)
  exact ⟨b, o, e, hb, hc 0 (by simp), hc 1 (by simp), hc 2 (by simp), hc 3 (by simp)⟩
theorem Ints.three {w : World} {A : Option Addr} {x0 x1 x2 : Int} (h : Ints w A [x0, x1, x2]) : ∃ b o, A = some ⟨b, o, none⟩ ∧ b < w.heap.size ∧ w.cell? ⟨b, o, none⟩ = some (.int .i64 x0) ∧ w.cell? ⟨b, o + 1, none⟩ = some (.int .i64 x1) ∧ w.cell? ⟨b, o + 2, none⟩ = some (.int .i64 x2) := by
  obtain ⟨b, o, e, hb, hc⟩ := h (by simp)
  exact ⟨b, o, e, hb, hc 0 (by simp), hc 1 (by simp), hc 2 (by simp)⟩
theorem Ints.nine {w : World} {A : Option Addr} {x0 x1 x2 x3 x4 x5 x6 x7 x8 : Int} (h : Ints w A [x0, x1, x2, x3, x4, x5, x6, x7, x8]) : ∃ b o, A = some ⟨b, o, none⟩ ∧ b < w.heap.size ∧ w.cell? ⟨b, o, none⟩ = some (.int .i64 x0) ∧ w.cell? ⟨b, o + 1, none⟩ = some (.int .i64 x1) ∧ w.cell? ⟨b, o + 2, none⟩ = some (.int .i64 x2) ∧ w.cell? ⟨b, o + 3, none⟩ = some (.int .i64 x3) ∧ w.cell? ⟨b, o + 4, none⟩ = some (.int .i64 x4) ∧ w.cell? ⟨b, o + 5, none⟩ = some (.int .i64 x5) ∧ w.cell? ⟨b, o + 6, none⟩ = some (.int .i64 x6) ∧ w.cell? ⟨b, o + 7, none⟩ = some (.int .i64 x7) ∧ w.cell? ⟨b, o + 8, none⟩ = some (.int .i64 x8) := by
  obtain ⟨b, o, e, hb, hc⟩ := h (by simp)
  exact ⟨b, o, e, hb, hc 0 (by simp), hc 1 (by simp), hc 2 (by simp), hc 3 (by simp), hc 4 (by simp), hc 5 (by simp), hc 6 (by simp), hc 7 (by simp), hc 8 (by simp)⟩
theorem Gc_zero_left (a : Int) : Gc 0 a = Ab a := by unfold Gc; rw [Int.gcd_comm, Int.gcd_zero, Ab_nat]
theorem Gc_Ab_left (a b : Int) : Gc (Ab a) b = Gc a b := by
  unfold Gc
  rw [Int.gcd_eq_natAbs_gcd_natAbs, Int.gcd_eq_natAbs_gcd_natAbs, Ab_nat]; simp
theorem Gc_le (a b B : Int) (h1 : -B ≤ a) (h2 : a ≤ B) (h3 : -B ≤ b) (h4 : b ≤ B) : Gc a b ≤ B := by
  unfold Gc
  by_cases hb : b = 0
  · subst hb; rw [Int.gcd_zero]; omega
  · have h := Nat.le_of_dvd (by omega) (Nat.gcd_dvd_right a.natAbs b.natAbs)
    rw [Int.gcd_eq_natAbs_gcd_natAbs]; omega
theorem Gc_eq_zero {a b : Int} (h : Gc a b = 0) : a = 0 ∧ b = 0 := by
  unfold Gc at h
  have h' : Int.gcd a b = 0 := by omega
  rw [Int.gcd_eq_zero_iff] at h'
  exact h'
/-- The greatest common divisor of numbers. -/
def gcL (zs : List Int) : Int := zs.foldl Gc 0
theorem gcL_step (zs : List Int) (k : Nat) (h : k < zs.length) : gcL (zs.take (k + 1)) = Gc (gcL (zs.take k)) zs[k] := by
  unfold gcL
  rw [List.take_succ_eq_append_getElem h, List.foldl_append]; rfl
theorem gcL_bd (zs : List Int) (B : Int) (hB : 0 ≤ B) (hb : ∀ x ∈ zs, -B ≤ x ∧ x ≤ B) (k : Nat) : 0 ≤ gcL (zs.take k) ∧ gcL (zs.take k) ≤ B := by
  induction k with
  | zero => simp [gcL]; exact hB
  | succ k ih =>
    by_cases hk : k < zs.length
    · rw [gcL_step zs k hk]
      have := hb _ (List.getElem_mem hk)
      exact ⟨Gc_nonneg _ _, Gc_le _ _ B (by omega) ih.2 this.1 this.2⟩
    · rw [List.take_of_length_le (by omega)]
      rw [List.take_of_length_le (by omega)] at ih
      exact ih
theorem gcL_three (x y z : Int) : gcL [x, y, z] = Gc (Gc x y) z := by
  unfold gcL
  simp only [List.foldl]
  rw [Gc_zero_left, Gc_Ab_left]
theorem quiet_d {P : Program} {f : FuncId} {args : Array Value} {w : World} {n : Nat} {v : Value}
    (h : Calls P f args (w.drewN n) fun e w' => e = .returned v ∧ ∃ m, w' = (w.drewN n).drewN m) : Calls P f args (w.drewN n) fun e w'' => e = .returned v ∧ ∃ m, w'' = w.drewN m :=
  h.mono fun _ _ ⟨he, m, hm⟩ => ⟨he, n + m, by rw [hm, World.drewN_drewN]⟩
theorem as_b {P : Program} {f : FuncId} {args : Array Value} {w : World} {b c : Bool} (h : b = c) (H : Calls P f args w fun e w' => e = .returned (.bool b) ∧ w = w') : Calls P f args w fun e w' => e = .returned (.bool c) ∧ w = w' := h ▸ H
theorem toB {P : Program} {f : FuncId} {args : Array Value} {w : World} {v : Value} (h : Calls P f args w fun e w' => e = .returned v ∧ ∃ n, w' = w.drewN n) : Calls P f args w fun e w' => e = .returned v ∧ Below w.heap.size w w' :=
  h.mono fun _ _ ⟨he, n, hn⟩ => ⟨he, by rw [hn]; exact Bel.drewN (Below.refl _ _) n⟩
/-- Equal triples, as a Bool that the walk does not take apart. -/
def eqR (a b c d e f : Int) : Bool := decide (a = d) && decide (b = e) && decide (c = f)
theorem eqR_self (a b c : Int) : eqR a b c a b c = true := by simp [eqR]
theorem Own.ge_mono {w : World} {B B' : Nat} {T : TypeId} {v : Value} {zs : List Int} (h : Own w B T v zs) (hB : B' ≤ B) : Own w B' T v zs := by
  obtain ⟨h1, h2⟩ := h
  refine ⟨h1, ?_⟩
  rcases h2 with h2 | ⟨g, cap, cur, hv, hg, r⟩
  · exact Or.inl h2
  · exact Or.inr ⟨g, cap, cur, hv, Nat.le_trans hB hg, r⟩
theorem fill_set (L : List Int) (n : Nat) (v : Int) (h : L.length < n) : (L ++ List.replicate (n - L.length) 0).set L.length v = (L ++ [v]) ++ List.replicate (n - (L.length + 1)) 0 := by
  rw [List.set_append_right _ _ (Nat.le_refl _), Nat.sub_self]
  have : n - L.length = (n - (L.length + 1)) + 1 := by omega
  rw [this, List.replicate_succ, List.set_cons_zero, List.append_assoc]
  rfl
theorem Blk.own {w : World} {g : Nat} {T : TypeId} {zs : List Int} (h : Blk w g T (icells zs)) (hl : zs.length ≤ maxLen) (B : Nat) (hB : B ≤ g) : Own w B T (.slice (some ⟨g, 0, none⟩) zs.length zs.length) zs :=
  ⟨by simp, .inr ⟨g, zs.length, icells zs, rfl, hB, h, Nat.le_refl _, hl, by simp [icells], by simp only [icells, Nat.mul_one]; exact List.take_of_length_le (by simp)⟩⟩
theorem Own.kept {w w' : World} {B : Nat} {T : TypeId} {v : Value} {zs : List Int} {row : Option Nat} (h : Own w B T v zs) (hg : w.grownBy w' row) (hne : v.ownBlock = none ∨ v.ownBlock ≠ row) : Own w' B T v zs := World.ownsRow.kept h hg hne
theorem Blk.grown {w w' : World} {g : Nat} {T : TypeId} {cs : Array Value} {row : Option Nat} (h : Blk w g T cs) (hg : w.grownBy w' row) (hne : some g ≠ row) : Blk w' g T cs := (hg.block g h.lt hne).trans h
theorem set_take (cur : Array Value) (k : Nat) (v : Value) (h : k < cur.size) : (cur.setIfInBounds k v).toList.take (k + 1) = cur.toList.take k ++ [v] := by
  rw [Array.toList_setIfInBounds, List.take_succ_eq_append_getElem (by simpa using h)]
  rw [List.take_set_of_le (Nat.le_refl _)]
  simp
theorem marks_succ (k : Nat) (k0 : Int) : marks (k + 1) k0 = marks k k0 ++ [k0 + (k : Int)] := by simp [marks, List.range_succ]
theorem Own.ints {w : World} {B : Nat} {T : TypeId} {A : Option Addr} {n c : Nat} {zs : List Int} (h : Own w B T (.slice A n c) zs) : Ints w A zs := by
  obtain ⟨A', c', e, _, _, hI, _⟩ := h.form
  injection e with e1 e2 e3
  rw [e1]; exact hI
theorem own_ne_lo {w : World} {B g : Nat} {T : TypeId} {v : Value} {zs : List Int} (h : Own w B T v zs) (hg : w.heap.size ≤ g) : v.ownBlock = none ∨ v.ownBlock ≠ some g := by
  refine .inr fun e => ?_
  have := (h.lt g e).2
  omega
theorem own_ne_hi {w : World} {B g : Nat} {T : TypeId} {v : Value} {zs : List Int} (h : Own w B T v zs) (hg : g < B) : v.ownBlock = none ∨ v.ownBlock ≠ some g := by
  refine .inr fun e => ?_
  have := (h.lt g e).1
  omega
theorem Bel.grown {w W w' : World} {row : Option Nat} (h : Below w.heap.size w W) (hg : W.grownBy w' row) (hr : ∀ k, row = some k → w.heap.size ≤ k) : Below w.heap.size w w' := h.grown hg h.size hr
theorem grown_size {w w' : World} {row : Option Nat} (h : w.grownBy w' row) : w.heap.size ≤ w'.heap.size := h.size
theorem own_ne_lo' {w : World} {B g : Nat} {T : TypeId} {v : Value} {zs : List Int} (h : Own w B T v zs) (hg : w.heap.size ≤ g) : v.ownBlock = none ∨ v.ownBlock ≠ some g := own_ne_lo h hg
theorem own_ne_own {w w' : World} {B B' : Nat} {T T' : TypeId} {v v' : Value} {zs zs' : List Int} (h : Own w B T v zs) (h' : Own w' B' T' v' zs') (hg : w.heap.size ≤ B') : v.ownBlock = none ∨ v.ownBlock ≠ v'.ownBlock := by
  rcases hv : v.ownBlock with _ | g
  · exact .inl rfl
  · refine .inr fun e => ?_
    have h1 := (h.lt g hv).2
    have h2 := (h'.lt g e.symm).1
    omega
/-- A formula (factor, names, exponents) and a chart (further width and two moduli). -/
structure Ch where
  dg : Int
  tn : Int
  nm : ByteArray
  zs : List Int
  wd : Int
  lf : Int
  rt : Int
/-- A release: a chart, four figures, an eye and a bound. -/
structure Re where
  ch : Ch
  ad : Int
  at_ : Int
  bd : Int
  bt : Int
  cd : Int
  ct : Int
  dd : Int
  dt : Int
  ey : Int
  bo : Int
end Go.Proofs.YtpmcgicopogbhaaGreat
