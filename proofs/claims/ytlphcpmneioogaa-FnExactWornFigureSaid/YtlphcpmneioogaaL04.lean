/- Chapter 4: the figures below and above a number of units. Conditions: as stated at each contract. -/
import Derived.Test.YtlphcpmneioogaaProg
import Derived.Test.YtlphcpmneioogaaBase
import Derived.Test.YtlphcpmneioogaaL01
import Derived.Test.YtlphcpmneioogaaCp
import Derived.Test.YtlphcpmneioogaaL18
import Derived.Test.YtlphcpmneioogaaL23
import Derived.Test.YtlphcpmneioogaaL03
import Derived.WalkKit
import Derived.WalkSpells
import Derived.WalkLawsBesides
import Derived.Lib.Hide
import Derived.Deep.QuietTactic
import Derived.BigQuiet
import Derived.Deep.Draws
import Derived.Deep.RegionHeld3
import Derived.Deep.LoopGhost
import Derived.Shelf.Abstract
namespace Go.Proofs.Ytlphcpmneioogaa
open Go.RowKit
set_option linter.unusedVariables false
theorem Fl_mono {a b c : Int} (hc : 0 < c) (h : a ≤ b) : Fl a c ≤ Fl b c := by
  rw [Fl_pos _ _ hc, Fl_pos _ _ hc]
  exact Int.ediv_le_ediv hc h
theorem Cl_mono {a b c : Int} (hc : 0 < c) (h : a ≤ b) : Cl a c ≤ Cl b c := by
  have := Fl_mono hc (show -b ≤ -a by omega)
  unfold Cl; omega
theorem Fl_le_Cl {a c : Int} (hc : 0 < c) : Fl a c ≤ Cl a c := by
  unfold Cl
  rw [Fl_pos _ _ hc, Fl_pos _ _ hc]
  have h1 := Int.ediv_mul_le a (show c ≠ 0 by omega)
  have h2 := Int.ediv_mul_le (-a) (show c ≠ 0 by omega)
  have h3 : (a / c + -a / c) * c ≤ 0 := by rw [Int.add_mul]; omega
  rcases Int.lt_or_le 0 (a / c + -a / c) with h | h
  · have := Int.mul_pos h hc
    omega
  · omega
/-- Two states of the squaring, in the order of the logarithms that they stand for. -/
def lexL (a b : Int × Int) : Prop := a.2 < b.2 ∨ (a.2 = b.2 ∧ a.1 ≤ b.1)
theorem lex_step {x1 n1 x2 n2 f1 f2 g1 g2 : Int} (h : lexL (x1, n1) (x2, n2)) (hf : x1 ≤ x2 → f1 ≤ f2) (hg : f1 ≤ f2 → g1 ≤ g2) :
    lexL (if 1000000000 ≤ f1 then (g1, 2 * n1 + 1) else (f1, 2 * n1)) (if 1000000000 ≤ f2 then (g2, 2 * n2 + 1) else (f2, 2 * n2)) := by
  unfold lexL at h ⊢
  simp only at h
  rcases h with h | ⟨h, h'⟩
  · split <;> split <;> simp only <;> omega
  · have h1 := hf h'
    have h2 := hg h1
    split <;> split <;> simp only <;> omega
theorem sq_mono {x y : Int} (h0 : 0 ≤ x) (h : x ≤ y) : x * x ≤ y * y := Int.mul_le_mul h h h0 (by omega)
theorem loN_mono {x y : Int} (h1 : 100000000 ≤ x) (h : x ≤ y) (h2 : y < 1000000000) (k : Nat) : lexL (loN x k) (loN y k) := by
  induction k with
  | zero => exact .inr ⟨rfl, h⟩
  | succ k ih =>
    obtain ⟨a, _, _, _⟩ := loN_bd x h1 (by omega) k
    exact lex_step (show lexL ((loN x k).1, (loN x k).2) ((loN y k).1, (loN y k).2) from ih) (fun e => Fl_mono (by omega) (sq_mono (by omega) e)) (fun e => Fl_mono (by omega) e)
theorem hiN_mono {x y : Int} (h1 : 100000000 ≤ x) (h : x ≤ y) (h2 : y ≤ 1000000000) (k : Nat) : lexL (hiN x k) (hiN y k) := by
  induction k with
  | zero => exact .inr ⟨rfl, h⟩
  | succ k ih =>
    obtain ⟨a, _, _, _⟩ := hiN_bd x h1 (by omega) k
    exact lex_step (show lexL ((hiN x k).1, (hiN x k).2) ((hiN y k).1, (hiN y k).2) from ih) (fun e => Cl_mono (by omega) (sq_mono (by omega) e)) (fun e => Cl_mono (by omega) e)
theorem lohi {x : Int} (h1 : 100000000 ≤ x) (h2 : x < 1000000000) (k : Nat) : lexL (loN x k) (hiN x k) := by
  induction k with
  | zero => exact .inr ⟨rfl, Int.le_refl _⟩
  | succ k ih =>
    obtain ⟨a, _, _, _⟩ := loN_bd x h1 (by omega) k
    exact lex_step (show lexL ((loN x k).1, (loN x k).2) ((hiN x k).1, (hiN x k).2) from ih) (fun e => Int.le_trans (Fl_mono (by omega) (sq_mono (by omega) e)) (Fl_le_Cl (by omega))) (fun e => Int.le_trans (Fl_mono (by omega) e) (Fl_le_Cl (by omega)))
theorem lexL_2 {a b : Int × Int} (h : lexL a b) : a.2 ≤ b.2 := by unfold lexL at h; omega
theorem lgLo_mono {x y : Int} (h1 : 100000000 ≤ x) (h : x ≤ y) (h2 : y < 1000000000) : lgLo x ≤ lgLo y := lexL_2 (loN_mono h1 h h2 20)
theorem lgHi_mono {x y : Int} (h1 : 100000000 ≤ x) (h : x ≤ y) (h2 : y < 1000000000) : lgHi x ≤ lgHi y := by
  have := lexL_2 (hiN_mono h1 h (by omega) 20)
  unfold lgHi; omega
theorem lg_lt {x : Int} (h1 : 100000000 ≤ x) (h2 : x < 1000000000) : lgLo x < lgHi x := by
  have := lexL_2 (lohi h1 h2 20)
  unfold lgHi lgLo; omega
theorem fg_lt {dg tn : Int} (h1 : 1000 ≤ dg) (h2 : dg ≤ 9999) : fgLo dg tn < fgHi dg tn := by
  have := lg_lt (x := dg * 100000) (by omega) (by omega)
  unfold fgLo fgHi; omega
/-- The first state of 1 stays. -/
theorem loN_one (k : Nat) : loN 100000000 k = (100000000, 0) := by
  induction k with
  | zero => rfl
  | succ k ih => rw [loN, ih]; rfl
theorem hiN_one (k : Nat) : hiN 100000000 k = (100000000, 0) := by
  induction k with
  | zero => rfl
  | succ k ih => rw [hiN, ih]; rfl
theorem lgLo_one : lgLo 100000000 = 0 := by unfold lgLo; rw [loN_one]
theorem lgHi_one : lgHi 100000000 = 1 := by unfold lgHi; rw [hiN_one]; rfl
/-- The logarithms of the figure with a number. -/
def FL (n : Int) : Int := fgLo (1000 + n % 9000) (n / 9000)
def FH (n : Int) : Int := fgHi (1000 + n % 9000) (n / 9000)
theorem FL_bd (n : Int) : n / 9000 * 1048576 ≤ FL n ∧ FL n < n / 9000 * 1048576 + 1048576 := by
  have := lgLo_bd ((1000 + n % 9000) * 100000) (by omega) (by omega)
  unfold FL fgLo; omega
theorem FH_bd (n : Int) : n / 9000 * 1048576 < FH n ∧ FH n ≤ n / 9000 * 1048576 + 1048576 := by
  have := lgHi_bd ((1000 + n % 9000) * 100000) (by omega) (by omega)
  unfold FH fgHi; omega
theorem FL_mono {n m : Int} (h : n ≤ m) : FL n ≤ FL m := by
  rcases Int.lt_or_le (n / 9000) (m / 9000) with hq | hq
  · have a := FL_bd n
    have b := FL_bd m
    omega
  · have hq' : n / 9000 = m / 9000 := by omega
    have := lgLo_mono (x := (1000 + n % 9000) * 100000) (y := (1000 + m % 9000) * 100000) (by omega) (by omega) (by omega)
    unfold FL fgLo; omega
theorem FH_mono {n m : Int} (h : n ≤ m) : FH n ≤ FH m := by
  rcases Int.lt_or_le (n / 9000) (m / 9000) with hq | hq
  · have a := FH_bd n
    have b := FH_bd m
    omega
  · have hq' : n / 9000 = m / 9000 := by omega
    have := lgHi_mono (x := (1000 + n % 9000) * 100000) (y := (1000 + m % 9000) * 100000) (by omega) (by omega) (by omega)
    unfold FH fgHi; omega
/-- The first number from lo on, of n, of which p holds; behind them if there is none. -/
def fst (p : Int → Bool) (lo : Int) : Nat → Int
  | 0 => lo
  | n + 1 => if p lo then lo else fst p (lo + 1) n
theorem fst_uniq (p : Int → Bool) (n : Nat) : ∀ (lo N : Int), lo ≤ N → N ≤ lo + n → (∀ t, lo ≤ t → t < N → p t = false) → (p N = true ∨ N = lo + n) → fst p lo n = N := by
  induction n with
  | zero => intro lo N h1 h2 _ _; simp only [fst]; omega
  | succ n ih =>
    intro lo N h1 h2 h3 h4
    unfold fst
    by_cases he : N = lo
    · subst he
      rcases h4 with h4 | h4
      · rw [if_pos h4]
      · omega
    · rw [if_neg (by rw [h3 lo (Int.le_refl _) (by omega)]; simp)]
      exact ih (lo + 1) N (by omega) (by omega) (fun t a b => h3 t (by omega) b) (by rcases h4 with h4 | h4; exact .inl h4; right; omega)
theorem fst_bd (p : Int → Bool) (n : Nat) : ∀ lo, lo ≤ fst p lo n ∧ fst p lo n ≤ lo + n := by
  induction n with
  | zero => intro lo; simp [fst]
  | succ n ih =>
    intro lo
    unfold fst
    have := ih (lo + 1)
    split <;> omega
/-- The numbers of the figure that bounds the units from below, and from above. -/
def nBw (u : Int) : Int := fst (fun t => decide (u < FH t)) (-270000) 549000 - 1
def nAb (u : Int) : Int := fst (fun t => decide (u ≤ FL t)) (-270000) 549000
def atD (n : Int) : Int := 1000 + n % 9000
def atT (n : Int) : Int := n / 9000
theorem fst_search {p : Int → Bool} (hm : ∀ a b, a ≤ b → p a = true → p b = true) {lo hi : Int} (h1 : -270001 ≤ lo) (h2 : hi ≤ 279000) (h3 : hi = lo + 1) (h4 : lo = -270001 ∨ p lo = false) (h5 : hi = 279000 ∨ p hi = true) : fst p (-270000) 549000 = hi := by
  refine fst_uniq p 549000 _ _ (by omega) (by omega) (fun t a b => ?_) (by rcases h5 with h5 | h5; right; omega; exact .inl h5)
  cases ht : p t with
  | false => rfl
  | true =>
    rcases h4 with h4 | h4
    · omega
    · have := hm t lo (by omega) ht
      rw [h4] at this; cases this
/-- The search in one power of ten. -/
theorem fst_decade {p : Int → Bool} (hm : ∀ a b, a ≤ b → p a = true → p b = true) {q : Int} {i : Nat} (h1 : -30 ≤ q) (h2 : q ≤ 30) (hi : i ≤ 9000) (hp : p (9000 * q - 1) = false) (hn : p (9000 * q + 9000) = true) (h3 : ∀ j : Nat, j < i → p (9000 * q + j) = false) (h4 : i = 9000 ∨ p (9000 * q + i) = true) : fst p (-270000) 549000 = 9000 * q + i := by
  refine fst_uniq p 549000 _ _ (by omega) (by omega) (fun t a b => ?_) (.inl ?_)
  · cases ht : p t with
    | false => rfl
    | true =>
      rcases Int.lt_or_le t (9000 * q) with hlt | hge
      · have := hm t (9000 * q - 1) (by omega) ht
        rw [hp] at this; cases this
      · have := h3 (t - 9000 * q).toNat (by omega)
        rw [show 9000 * q + ((t - 9000 * q).toNat : Int) = t by omega, ht] at this; cases this
  · rcases h4 with h4 | h4
    · subst h4; exact hn
    · exact h4
theorem FH_dec {u : Int} : ∀ a b : Int, a ≤ b → decide (u < FH a) = true → decide (u < FH b) = true := by
  intro a b h; simp only [decide_eq_true_eq]; have := FH_mono h; omega
theorem FL_dec {u : Int} : ∀ a b : Int, a ≤ b → decide (u ≤ FL a) = true → decide (u ≤ FL b) = true := by
  intro a b h; simp only [decide_eq_true_eq]; have := FL_mono h; omega
/-- What the program finds below, in numbers. -/
theorem bw_found {u q : Int} {i : Nat} (hq : q = Fl (u - 1) 1048576) (h1 : -30 ≤ q) (h2 : u ≤ 31457280) (hi : i ≤ 9000) (h3 : ∀ j : Nat, j < i → decide (u < fgHi (1000 + j) q) = false) (h4 : i = 9000 ∨ decide (u < fgHi (1000 + i) q) = true) : atD (nBw u) = 999 + i ∧ atT (nBw u) = q := by
  rw [Fl_pos _ _ (by omega)] at hq
  have hj : ∀ j : Nat, j < 9000 → FH (9000 * q + j) = fgHi (1000 + j) q := by
    intro j hj
    unfold FH
    rw [show (9000 * q + (j : Int)) % 9000 = j by omega, show (9000 * q + (j : Int)) / 9000 = q by omega]
  have e := fst_decade (p := fun t => decide (u < FH t)) FH_dec (q := q) (i := i) h1 (by omega) hi
    (by have := FH_bd (9000 * q - 1); simp only [decide_eq_false_iff_not]; omega)
    (by have := FH_bd (9000 * q + 9000); simp only [decide_eq_true_eq]; omega)
    (fun j hji => by rw [hj j (by omega)]; exact h3 j hji)
    (by rcases h4 with h4 | h4
        · exact .inl h4
        · by_cases h9 : i = 9000
          · exact .inl h9
          · exact .inr (by rw [hj i (by omega)]; exact h4))
  have hpos : 0 < i := by
    rcases Nat.eq_zero_or_pos i with h0 | h0
    · subst h0
      rcases h4 with h4 | h4
      · omega
      · simp only [decide_eq_true_eq] at h4
        have : fgHi 1000 q = 1 + q * 1048576 := by unfold fgHi; rw [show (1000 : Int) * 100000 = 100000000 by rfl, lgHi_one]
        simp only [Int.natCast_zero, Int.add_zero] at h4
        omega
    · exact h0
  unfold nBw atD atT
  rw [e]
  exact ⟨by omega, by omega⟩
theorem bw_none {u : Int} (h : u = -31457280) : okF (atD (nBw u)) (atT (nBw u)) = false := by
  subst h
  have e : fst (fun t => decide (-31457280 < FH t)) (-270000) 549000 = -270000 := fst_uniq _ _ _ _ (by omega) (by omega) (fun t a b => by omega) (.inl (by have := FH_bd (-270000); simp only [decide_eq_true_eq]; omega))
  unfold nBw
  rw [e]
  rfl
theorem ab_found {u q : Int} {i : Nat} (hq : q = Fl u 1048576) (h1 : -31457280 ≤ u) (h2 : u ≤ 31457280) (hi : i ≤ 9000) (h3 : ∀ j : Nat, j < i → decide (u ≤ fgLo (1000 + j) q) = false) (h4 : i = 9000 ∨ decide (u ≤ fgLo (1000 + i) q) = true) : nAb u = 9000 * q + i := by
  rw [Fl_pos _ _ (by omega)] at hq
  have hj : ∀ j : Nat, j < 9000 → FL (9000 * q + j) = fgLo (1000 + j) q := by
    intro j hj
    unfold FL
    rw [show (9000 * q + (j : Int)) % 9000 = j by omega, show (9000 * q + (j : Int)) / 9000 = q by omega]
  exact fst_decade (p := fun t => decide (u ≤ FL t)) FL_dec (q := q) (i := i) (by omega) (by omega) hi
    (by have := FL_bd (9000 * q - 1); simp only [decide_eq_false_iff_not]; omega)
    (by have := FL_bd (9000 * q + 9000); simp only [decide_eq_true_eq]; omega)
    (fun j hji => by rw [hj j (by omega)]; exact h3 j hji)
    (by rcases h4 with h4 | h4
        · exact .inl h4
        · by_cases h9 : i = 9000
          · exact .inl h9
          · exact .inr (by rw [hj i (by omega)]; exact h4))
/-- The span of two numbers of units: its code and its figures. -/
def spC (a b : Int) : Int := if inB a (-31457280) 31457280 && inB b (-31457280) 31457280 then (if okF (atD (nBw a)) (atT (nBw a)) && okF (atD (nAb b)) (atT (nAb b)) then 0 else 4) else 2
def spV (a b x : Int) : Int := if spC a b = 0 then x else 0
theorem l01Mod_c (a : Int) (h1 : -1000000000000 ≤ a) (h2 : a ≤ 1000000000000) (w : World) :
    Calls Try.prog 41 #[.int .i64 a, .int .i64 9000] w fun e w' => e = .returned (.int .i64 (a % 9000)) ∧ w = w' := by
  obtain ⟨f0, f1, f2, f3⟩ := tmod_facts a 9000 (by omega)
  have b1 : -9000 < a.tmod 9000 := by omega
  have b2 : a.tmod 9000 < 9000 := by omega
  have e1 : (a.tmod 9000 + 9000) % 9000 = a % 9000 := by
    have : a.tmod 9000 % 9000 = a % 9000 := by omega
    omega
  have HV := Lib.hid e1
  clear f0 f1 f2 f3 e1
  go_enter Try.func41, Try.ntmps41
  go_wp2
  go_ret
  exact ⟨ret_int HV.out, rfl⟩
/-- What a search hands back: the first of n places of which p holds, or n. -/
def SrchQ (n : Nat) (p : Nat → Bool) (w : World) (e : Ending) (w' : World) : Prop := ∃ i : Nat, e = .returned (.int .i64 i) ∧ i ≤ n ∧ (∀ j : Nat, j < i → p j = false) ∧ (i = n ∨ p i = true) ∧ Below w.heap.size w w'
theorem hi_mono_i {u q : Int} : ∀ a b : Nat, a ≤ b → b < 9000 → decide (u < fgHi (1000 + a) q) = true → decide (u < fgHi (1000 + b) q) = true := by
  intro a b h hb
  have := lgHi_mono (x := (1000 + (a : Int)) * 100000) (y := (1000 + (b : Int)) * 100000) (by omega) (by omega) (by omega)
  simp only [decide_eq_true_eq]; unfold fgHi; omega
theorem lo_mono_i {u q : Int} : ∀ a b : Nat, a ≤ b → b < 9000 → decide (u ≤ fgLo (1000 + a) q) = true → decide (u ≤ fgLo (1000 + b) q) = true := by
  intro a b h hb
  have := lgLo_mono (x := (1000 + (a : Int)) * 100000) (y := (1000 + (b : Int)) * 100000) (by omega) (by omega) (by omega)
  simp only [decide_eq_true_eq]; unfold fgLo; omega
def bwOk (u : Int) : Bool := okF (atD (nBw u)) (atT (nBw u))
def abOk (u : Int) : Bool := okF (atD (nAb u)) (atT (nAb u))
def bwV (u x : Int) : Int := if bwOk u then x else 0
theorem atD_bd (n : Int) : 1000 ≤ atD n ∧ atD n ≤ 9999 := by unfold atD; omega
theorem bwOk_of {u q : Int} (h : atT (nBw u) = q) (h1 : -30 ≤ q) (h2 : q ≤ 30) : bwOk u = true := by
  have := atD_bd (nBw u)
  simp only [bwOk, okF, Bool.and_eq_true, inB_iff]; omega
theorem sp_2 {a b : Int} (h : inB a (-31457280) 31457280 = false ∨ inB b (-31457280) 31457280 = false) : spC a b = 2 ∧ ∀ x, spV a b x = 0 := by
  have : spC a b = 2 := by rcases h with h | h <;> simp [spC, h]
  exact ⟨this, fun x => by simp [spV, this]⟩
theorem sp_4 {a b : Int} (h1 : inB a (-31457280) 31457280 = true) (h2 : inB b (-31457280) 31457280 = true) (h : bwOk a = false ∨ abOk b = false) : spC a b = 4 ∧ ∀ x, spV a b x = 0 := by
  have : spC a b = 4 := by
    unfold bwOk abOk at h
    rcases h with h | h <;> simp [spC, h1, h2, h]
  exact ⟨this, fun x => by simp [spV, this]⟩
theorem sp_0 {a b : Int} (h1 : inB a (-31457280) 31457280 = true) (h2 : inB b (-31457280) 31457280 = true) (h : bwOk a = true) (h' : abOk b = true) : spC a b = 0 ∧ ∀ x, spV a b x = x := by
  have : spC a b = 0 := by
    unfold bwOk at h
    unfold abOk at h'
    simp [spC, h1, h2, h, h']
  exact ⟨this, fun x => by simp [spV, this]⟩
/-- A fact that the walk does not look into. -/
structure BoxSp (P : Prop) : Prop where
  out : P
theorem cut_Sp {G : Prop} (P : Prop) (k : BoxSp P → G) (h : P) : G := k ⟨h⟩
end Go.Proofs.Ytlphcpmneioogaa
