/- Chapter 4: the figures below and above a number of units. Conditions: as stated at each contract. -/
import Derived.Test.YtpmcgicopogbhaaGreatProg
import Derived.Test.YtpmcgicopogbhaaGreatBase
import Derived.Test.YtpmcgicopogbhaaGreatZy
import Derived.Test.YtpmcgicopogbhaaGreatL01
import Derived.Test.YtpmcgicopogbhaaGreatCp
import Derived.Test.YtpmcgicopogbhaaGreatL18
import Derived.Test.YtpmcgicopogbhaaGreatL23
import Derived.Test.YtpmcgicopogbhaaGreatL03
import Derived.Test.YtpmcgicopogbhaaGreatL23d
import Derived.WalkKit
import Derived.WalkSpells
import Derived.WalkLawsBesides
import Derived.Lib.Hide
import Derived.Deep.QuietTactic
import Derived.BigQuiet
import Derived.Deep.Draws
import Derived.Deep.RegionHeld3
import Derived.Deep.LoopGhost
import Derived.Shelf.Abstract
namespace Go.Proofs.YtpmcgicopogbhaaGreat
set_option linter.unusedSimpArgs false
open Go.RowKit
set_option linter.unusedVariables false
theorem Fl_mono {a b c : Int} (hc : 0 < c) (h : a ≤ b) : Fl a c ≤ Fl b c := by
  rw [Fl_pos _ _ hc, Fl_pos _ _ hc]
  exact Int.ediv_le_ediv hc h
theorem Cl_mono {a b c : Int} (hc : 0 < c) (h : a ≤ b) : Cl a c ≤ Cl b c := by
  have := Fl_mono hc (show -b ≤ -a by omega)
  unfold Cl; omega
theorem Fl_le_Cl {a c : Int} (hc : 0 < c) : Fl a c ≤ Cl a c := by
  unfold Cl
  rw [Fl_pos _ _ hc, Fl_pos _ _ hc]
  have h1 := Int.ediv_mul_le a (show c ≠ 0 by omega)
  have h2 := Int.ediv_mul_le (-a) (show c ≠ 0 by omega)
  have h3 : (a / c + -a / c) * c ≤ 0 := by rw [Int.add_mul]; omega
  rcases Int.lt_or_le 0 (a / c + -a / c) with h | h
  · have := Int.mul_pos h hc
    omega
  · omega
/-- Two states of the squaring, in the order of the logarithms that they stand for. -/
def lexL (a b : Int × Int) : Prop := a.2 < b.2 ∨ (a.2 = b.2 ∧ a.1 ≤ b.1)
theorem lex_step {x1 n1 x2 n2 f1 f2 g1 g2 : Int} (h : lexL (x1, n1) (x2, n2)) (hf : x1 ≤ x2 → f1 ≤ f2) (hg : f1 ≤ f2 → g1 ≤ g2) :
    lexL (if 1000000000 ≤ f1 then (g1, 2 * n1 + 1) else (f1, 2 * n1)) (if 1000000000 ≤ f2 then (g2, 2 * n2 + 1) else (f2, 2 * n2)) := by
  unfold lexL at h ⊢
  simp only at h
  rcases h with h | ⟨h, h'⟩
  · split <;> split <;> simp only <;> omega
  · have h1 := hf h'
    have h2 := hg h1
    split <;> split <;> simp only <;> omega
theorem sq_mono {x y : Int} (h0 : 0 ≤ x) (h : x ≤ y) : x * x ≤ y * y := Int.mul_le_mul h h h0 (by omega)
theorem loN_mono {x y : Int} (h1 : 100000000 ≤ x) (h : x ≤ y) (h2 : y < 1000000000) (k : Nat) : lexL (loN x k) (loN y k) := by
  induction k with
  | zero => exact .inr ⟨rfl, h⟩
  | succ k ih =>
    obtain ⟨a, _, _, _⟩ := loN_bd x h1 (by omega) k
    exact lex_step (show lexL ((loN x k).1, (loN x k).2) ((loN y k).1, (loN y k).2) from ih) (fun e => Fl_mono (by omega) (sq_mono (by omega) e)) (fun e => Fl_mono (by omega) e)
theorem hiN_mono {x y : Int} (h1 : 100000000 ≤ x) (h : x ≤ y) (h2 : y ≤ 1000000000) (k : Nat) : lexL (hiN x k) (hiN y k) := by
  induction k with
  | zero => exact .inr ⟨rfl, h⟩
  | succ k ih =>
    obtain ⟨a, _, _, _⟩ := hiN_bd x h1 (by omega) k
    exact lex_step (show lexL ((hiN x k).1, (hiN x k).2) ((hiN y k).1, (hiN y k).2) from ih) (fun e => Cl_mono (by omega) (sq_mono (by omega) e)) (fun e => Cl_mono (by omega) e)
theorem lohi {x : Int} (h1 : 100000000 ≤ x) (h2 : x < 1000000000) (k : Nat) : lexL (loN x k) (hiN x k) := by
  induction k with
  | zero => exact .inr ⟨rfl, Int.le_refl _⟩
  | succ k ih =>
    obtain ⟨a, _, _, _⟩ := loN_bd x h1 (by omega) k
    exact lex_step (show lexL ((loN x k).1, (loN x k).2) ((hiN x k).1, (hiN x k).2) from ih) (fun e => Int.le_trans (Fl_mono (by omega) (sq_mono (by omega) e)) (Fl_le_Cl (by omega))) (fun e => Int.le_trans (Fl_mono (by omega) e) (Fl_le_Cl (by omega)))
theorem lexL_2 {a b : Int × Int} (h : lexL a b) : a.2 ≤ b.2 := by unfold lexL at h; omega
theorem lgLo_mono {x y : Int} (h1 : 100000000 ≤ x) (h : x ≤ y) (h2 : y < 1000000000) : lgLo x ≤ lgLo y := lexL_2 (loN_mono h1 h h2 20)
theorem lgHi_mono {x y : Int} (h1 : 100000000 ≤ x) (h : x ≤ y) (h2 : y < 1000000000) : lgHi x ≤ lgHi y := by
  have := lexL_2 (hiN_mono h1 h (by omega) 20)
  unfold lgHi; omega
theorem lg_lt {x : Int} (h1 : 100000000 ≤ x) (h2 : x < 1000000000) : lgLo x < lgHi x := by
  have := lexL_2 (lohi h1 h2 20)
  unfold lgHi lgLo; omega
theorem fg_lt {dg tn : Int} (h1 : 1000 ≤ dg) (h2 : dg ≤ 9999) : fgLo dg tn < fgHi dg tn := by
  have := lg_lt (x := dg * 100000) (by omega) (by omega)
  unfold fgLo fgHi; omega
/-- The first state of 1 stays. -/
theorem loN_one (k : Nat) : loN 100000000 k = (100000000, 0) := by
  induction k with
  | zero => rfl
  | succ k ih => rw [loN, ih]; rfl
theorem hiN_one (k : Nat) : hiN 100000000 k = (100000000, 0) := by
  induction k with
  | zero => rfl
  | succ k ih => rw [hiN, ih]; rfl
theorem lgLo_one : lgLo 100000000 = 0 := by unfold lgLo; rw [loN_one]
theorem lgHi_one : lgHi 100000000 = 1 := by unfold lgHi; rw [hiN_one]; rfl
/-- The logarithms of the figure with a number. -/
def FL (n : Int) : Int := fgLo (1000 + n % 9000) (n / 9000)
def FH (n : Int) : Int := fgHi (1000 + n % 9000) (n / 9000)
theorem FL_bd (n : Int) : n / 9000 * 1048576 ≤ FL n ∧ FL n < n / 9000 * 1048576 + 1048576 := by
  have := lgLo_bd ((1000 + n % 9000) * 100000) (by omega) (by omega)
  unfold FL fgLo; omega
theorem FH_bd (n : Int) : n / 9000 * 1048576 < FH n ∧ FH n ≤ n / 9000 * 1048576 + 1048576 := by
  have := lgHi_bd ((1000 + n % 9000) * 100000) (by omega) (by omega)
  unfold FH fgHi; omega
theorem FL_mono {n m : Int} (h : n ≤ m) : FL n ≤ FL m := by
  rcases Int.lt_or_le (n / 9000) (m / 9000) with hq | hq
  · have a := FL_bd n
    have b := FL_bd m
    omega
  · have hq' : n / 9000 = m / 9000 := by omega
    have := lgLo_mono (x := (1000 + n % 9000) * 100000) (y := (1000 + m % 9000) * 100000) (by omega) (by omega) (by omega)
    unfold FL fgLo; omega
theorem FH_mono {n m : Int} (h : n ≤ m) : FH n ≤ FH m := by
  rcases Int.lt_or_le (n / 9000) (m / 9000) with hq | hq
  · have a := FH_bd n
    have b := FH_bd m
    omega
  · have hq' : n / 9000 = m / 9000 := by omega
    have := lgHi_mono (x := (1000 + n % 9000) * 100000) (y := (1000 + m % 9000) * 100000) (by omega) (by omega) (by omega)
    unfold FH fgHi; omega
/-- The first number from lo on, of n, of which p holds; behind them if there is none. -/
def fst (p : Int → Bool) (lo : Int) : Nat → Int
  | 0 => lo
  | n + 1 => if p lo then lo else fst p (lo + 1) n
theorem fst_uniq (p : Int → Bool) (n : Nat) : ∀ (lo N : Int), lo ≤ N → N ≤ lo + n → (∀ t, lo ≤ t → t < N → p t = false) → (p N = true ∨ N = lo + n) → fst p lo n = N := by
  induction n with
  | zero => intro lo N h1 h2 _ _; simp only [fst]; omega
  | succ n ih =>
    intro lo N h1 h2 h3 h4
    unfold fst
    by_cases he : N = lo
    · subst he
      rcases h4 with h4 | h4
      · rw [if_pos h4]
      · omega
    · rw [if_neg (by rw [h3 lo (Int.le_refl _) (by omega)]; simp)]
      exact ih (lo + 1) N (by omega) (by omega) (fun t a b => h3 t (by omega) b) (by rcases h4 with h4 | h4; exact .inl h4; right; omega)
theorem fst_bd (p : Int → Bool) (n : Nat) : ∀ lo, lo ≤ fst p lo n ∧ fst p lo n ≤ lo + n := by
  induction n with
  | zero => intro lo; simp [fst]
  | succ n ih =>
    intro lo
    unfold fst
    have := ih (lo + 1)
    split <;> omega
/-- The numbers of the figure that bounds the units from below, and from above. -/
def nBw (u : Int) : Int := fst (fun t => decide (u < FH t)) (-270000) 549000 - 1
def nAb (u : Int) : Int := fst (fun t => decide (u ≤ FL t)) (-270000) 549000
def atD (n : Int) : Int := 1000 + n % 9000
def atT (n : Int) : Int := n / 9000
theorem fst_search {p : Int → Bool} (hm : ∀ a b, a ≤ b → p a = true → p b = true) {lo hi : Int} (h1 : -270001 ≤ lo) (h2 : hi ≤ 279000) (h3 : hi = lo + 1) (h4 : lo = -270001 ∨ p lo = false) (h5 : hi = 279000 ∨ p hi = true) : fst p (-270000) 549000 = hi := by
  refine fst_uniq p 549000 _ _ (by omega) (by omega) (fun t a b => ?_) (by rcases h5 with h5 | h5; right; omega; exact .inl h5)
  cases ht : p t with
  | false => rfl
  | true =>
    rcases h4 with h4 | h4
    · omega
    · have := hm t lo (by omega) ht
      rw [h4] at this; cases this
/-- The search in one power of ten. -/
theorem fst_decade {p : Int → Bool} (hm : ∀ a b, a ≤ b → p a = true → p b = true) {q : Int} {i : Nat} (h1 : -30 ≤ q) (h2 : q ≤ 30) (hi : i ≤ 9000) (hp : p (9000 * q - 1) = false) (hn : p (9000 * q + 9000) = true) (h3 : ∀ j : Nat, j < i → p (9000 * q + j) = false) (h4 : i = 9000 ∨ p (9000 * q + i) = true) : fst p (-270000) 549000 = 9000 * q + i := by
  refine fst_uniq p 549000 _ _ (by omega) (by omega) (fun t a b => ?_) (.inl ?_)
  · cases ht : p t with
    | false => rfl
    | true =>
      rcases Int.lt_or_le t (9000 * q) with hlt | hge
      · have := hm t (9000 * q - 1) (by omega) ht
        rw [hp] at this; cases this
      · have := h3 (t - 9000 * q).toNat (by omega)
        rw [show 9000 * q + ((t - 9000 * q).toNat : Int) = t by omega, ht] at this; cases this
  · rcases h4 with h4 | h4
    · subst h4; exact hn
    · exact h4
theorem FH_dec {u : Int} : ∀ a b : Int, a ≤ b → decide (u < FH a) = true → decide (u < FH b) = true := by
  intro a b h; simp only [decide_eq_true_eq]; have := FH_mono h; omega
theorem FL_dec {u : Int} : ∀ a b : Int, a ≤ b → decide (u ≤ FL a) = true → decide (u ≤ FL b) = true := by
  intro a b h; simp only [decide_eq_true_eq]; have := FL_mono h; omega
/-- What the program finds below, in numbers. -/
theorem bw_found {u q : Int} {i : Nat} (hq : q = Fl (u - 1) 1048576) (h1 : -30 ≤ q) (h2 : u ≤ 31457280) (hi : i ≤ 9000) (h3 : ∀ j : Nat, j < i → decide (u < fgHi (1000 + j) q) = false) (h4 : i = 9000 ∨ decide (u < fgHi (1000 + i) q) = true) : atD (nBw u) = 999 + i ∧ atT (nBw u) = q := by
  rw [Fl_pos _ _ (by omega)] at hq
  have hj : ∀ j : Nat, j < 9000 → FH (9000 * q + j) = fgHi (1000 + j) q := by
    intro j hj
    unfold FH
    rw [show (9000 * q + (j : Int)) % 9000 = j by omega, show (9000 * q + (j : Int)) / 9000 = q by omega]
  have e := fst_decade (p := fun t => decide (u < FH t)) FH_dec (q := q) (i := i) h1 (by omega) hi
    (by have := FH_bd (9000 * q - 1); simp only [decide_eq_false_iff_not]; omega)
    (by have := FH_bd (9000 * q + 9000); simp only [decide_eq_true_eq]; omega)
    (fun j hji => by rw [hj j (by omega)]; exact h3 j hji)
    (by rcases h4 with h4 | h4
        · exact .inl h4
        · by_cases h9 : i = 9000
          · exact .inl h9
          · exact .inr (by rw [hj i (by omega)]; exact h4))
  have hpos : 0 < i := by
    rcases Nat.eq_zero_or_pos i with h0 | h0
    · subst h0
      rcases h4 with h4 | h4
      · omega
      · simp only [decide_eq_true_eq] at h4
        have : fgHi 1000 q = 1 + q * 1048576 := by unfold fgHi; rw [show (1000 : Int) * 100000 = 100000000 by rfl, lgHi_one]
        simp only [Int.natCast_zero, Int.add_zero] at h4
        omega
    · exact h0
  unfold nBw atD atT
  rw [e]
  exact ⟨by omega, by omega⟩
theorem bw_none {u : Int} (h : u = -31457280) : okF (atD (nBw u)) (atT (nBw u)) = false := by
  subst h
  have e : fst (fun t => decide (-31457280 < FH t)) (-270000) 549000 = -270000 := fst_uniq _ _ _ _ (by omega) (by omega) (fun t a b => by omega) (.inl (by have := FH_bd (-270000); simp only [decide_eq_true_eq]; omega))
  unfold nBw
  rw [e]
  rfl
theorem ab_found {u q : Int} {i : Nat} (hq : q = Fl u 1048576) (h1 : -31457280 ≤ u) (h2 : u ≤ 31457280) (hi : i ≤ 9000) (h3 : ∀ j : Nat, j < i → decide (u ≤ fgLo (1000 + j) q) = false) (h4 : i = 9000 ∨ decide (u ≤ fgLo (1000 + i) q) = true) : nAb u = 9000 * q + i := by
  rw [Fl_pos _ _ (by omega)] at hq
  have hj : ∀ j : Nat, j < 9000 → FL (9000 * q + j) = fgLo (1000 + j) q := by
    intro j hj
    unfold FL
    rw [show (9000 * q + (j : Int)) % 9000 = j by omega, show (9000 * q + (j : Int)) / 9000 = q by omega]
  exact fst_decade (p := fun t => decide (u ≤ FL t)) FL_dec (q := q) (i := i) (by omega) (by omega) hi
    (by have := FL_bd (9000 * q - 1); simp only [decide_eq_false_iff_not]; omega)
    (by have := FL_bd (9000 * q + 9000); simp only [decide_eq_true_eq]; omega)
    (fun j hji => by rw [hj j (by omega)]; exact h3 j hji)
    (by rcases h4 with h4 | h4
        · exact .inl h4
        · by_cases h9 : i = 9000
          · exact .inl h9
          · exact .inr (by rw [hj i (by omega)]; exact h4))
/-- The span of two numbers of units: its code and its figures. -/
def spC (a b : Int) : Int := if inB a (-31457280) 31457280 && inB b (-31457280) 31457280 then (if okF (atD (nBw a)) (atT (nBw a)) && okF (atD (nAb b)) (atT (nAb b)) then 0 else 4) else 2
def spV (a b x : Int) : Int := if spC a b = 0 then x else 0
theorem l01Mod_c (a : Int) (h1 : -1000000000000 ≤ a) (h2 : a ≤ 1000000000000) (w : World) :
    Calls Tryz.prog 155 #[.int .i64 a, .int .i64 9000] w fun e w' => e = .returned (.int .i64 (a % 9000)) ∧ w = w' := by
  obtain ⟨f0, f1, f2, f3⟩ := tmod_facts a 9000 (by omega)
  have b1 : -9000 < a.tmod 9000 := by omega
  have b2 : a.tmod 9000 < 9000 := by omega
  have e1 : (a.tmod 9000 + 9000) % 9000 = a % 9000 := by
    have : a.tmod 9000 % 9000 = a % 9000 := by omega
    omega
  have HV := Lib.hid e1
  clear f0 f1 f2 f3 e1
  go_enter Tryz.func155, Tryz.ntmps155
  go_wp2
  go_ret
  exact ⟨ret_int HV.out, rfl⟩
theorem l04At_c (a : Int) (h1 : -1000000000000 ≤ a) (h2 : a ≤ 1000000000000) (w : World) :
    Calls Tryz.prog 142 #[.int .i64 a] w fun e w' => e = .returned (.agg #[.int .i64 (atD a), .int .i64 (atT a)]) ∧ Below w.heap.size w w' := by
  have HV := Lib.hid (show atD a = 1000 + a % 9000 ∧ atT a = Fl a 9000 from ⟨rfl, (Fl_pos _ _ (by omega)).symm⟩)
  go_enter Tryz.func142, Tryz.ntmps142
  go_wp2_with (first | (go_at_call 155; refine (l01Mod_c _ (by omega) (by omega) _).mono ?_; rintro e w' ⟨rfl, rfl⟩) | (go_at_call 135; refine (l01Floor_c _ _ (by omega) (by omega) (by omega) (by omega) (by omega) _).mono ?_; rintro e w' ⟨rfl, rfl⟩))
  refine bodyPost_ret (v := .agg #[.int .i64 (1000 + a % 9000), .int .i64 (Fl a 9000)]) (by simp [results, Tryz.results142, go_sem, *]) rfl ⟨by rw [HV.out.1, HV.out.2], by repeat (with_reducible first | exact Below.refl _ _ | assumption | refine Bel.alloc ?_ _ | refine Bel.step (by assumption) ?_ | refine Below.drew ?_ | refine Bel.drewN ?_ _ | refine Below.setCell ?_ (by first | exact Nat.le_refl _ | omega | (simp; done) | (simp; omega)) _)⟩
theorem l04Hi_c (dg tn u : Int) (h1 : 1000 ≤ dg) (h2 : dg ≤ 9999) (h3 : -40 ≤ tn) (h4 : tn ≤ 40) (w : World) :
    Calls Tryz.prog 156 #[.agg #[.int .i64 dg, .int .i64 tn], .int .i64 u, .bool true] w fun e w' => e = .returned (.bool (decide (u < fgHi dg tn))) ∧ Below w.heap.size w w' := by
  have hfd : ∀ (w : World) (a b : Int), (Instr.field 92 (.agg #[.int .i64 a, .int .i64 b]) 1).run Tryz.prog w = .ok (.int .i64 b) w := fun _ _ _ => by kernel_rfl
  go_enter Tryz.func156, Tryz.ntmps156
  go_wp2_with fail
  go_at_call 111; refine (l03Figure_c _ _ (by omega) (by omega) (by omega) (by omega) _).mono ?_; rintro e w1 ⟨rfl, hb1⟩; obtain ⟨hc1, hf1, hz1⟩ := bel hb1; (try simp only [World.size_drew, World.cell?_drew, World.frozen?_drew, World.heap_drewN, World.cell?_drewN, World.frozen?_drewN] at hc1 hf1 hz1); (try have hl1 : w.heap.size < w1.heap.size := zl hb1); (try have hm1 : w.heap.size + 1 < w1.heap.size := zl hb1); (try have hn1 : w.heap.size + 1 + 1 < w1.heap.size := zl hb1); (try have hp1 : b < w1.heap.size := zl hb1); (try have ho1 : b' < w1.heap.size := by (have hq := hb1.size; (try simp at hq); omega))
  go_wp2
  go_ret
  exact ⟨rfl, by repeat (with_reducible first | exact Below.refl _ _ | assumption | refine Bel.alloc ?_ _ | refine Bel.step (by assumption) ?_ | refine Below.drew ?_ | refine Bel.drewN ?_ _ | refine Below.setCell ?_ (by first | exact Nat.le_refl _ | omega | (simp; done) | (simp; omega)) _)⟩
theorem l04Lo_c (dg tn u : Int) (h1 : 1000 ≤ dg) (h2 : dg ≤ 9999) (h3 : -40 ≤ tn) (h4 : tn ≤ 40) (w : World) :
    Calls Tryz.prog 156 #[.agg #[.int .i64 dg, .int .i64 tn], .int .i64 u, .bool false] w fun e w' => e = .returned (.bool (decide (u ≤ fgLo dg tn))) ∧ Below w.heap.size w w' := by
  have hfd : ∀ (w : World) (a b : Int), (Instr.field 92 (.agg #[.int .i64 a, .int .i64 b]) 0).run Tryz.prog w = .ok (.int .i64 a) w := fun _ _ _ => by kernel_rfl
  go_enter Tryz.func156, Tryz.ntmps156
  go_wp2_with fail
  go_at_call 111; refine (l03Figure_c _ _ (by omega) (by omega) (by omega) (by omega) _).mono ?_; rintro e w1 ⟨rfl, hb1⟩; obtain ⟨hc1, hf1, hz1⟩ := bel hb1; (try simp only [World.size_drew, World.cell?_drew, World.frozen?_drew, World.heap_drewN, World.cell?_drewN, World.frozen?_drewN] at hc1 hf1 hz1); (try have hl1 : w.heap.size < w1.heap.size := zl hb1); (try have hm1 : w.heap.size + 1 < w1.heap.size := zl hb1); (try have hn1 : w.heap.size + 1 + 1 < w1.heap.size := zl hb1); (try have hp1 : b < w1.heap.size := zl hb1); (try have ho1 : b' < w1.heap.size := by (have hq := hb1.size; (try simp at hq); omega))
  go_wp2
  go_ret
  exact ⟨rfl, by repeat (with_reducible first | exact Below.refl _ _ | assumption | refine Bel.alloc ?_ _ | refine Bel.step (by assumption) ?_ | refine Below.drew ?_ | refine Bel.drewN ?_ _ | refine Below.setCell ?_ (by first | exact Nat.le_refl _ | omega | (simp; done) | (simp; omega)) _)⟩
theorem l04FirstHi_c (u : Int) (w : World) :
    Calls Tryz.prog 143 #[.int .i64 u, .bool true] w fun e w' => e = .returned (.int .i64 (fst (fun t => decide (u < FH t)) (-270000) 549000)) ∧ Below w.heap.size w w' := by
  go_enter Tryz.func143, Tryz.ntmps143
  go_wp2
  go_loopw [5, 6, 7] (fun a b _ wr => ∃ lo hi : Int, a = .int .i64 lo ∧ b = .int .i64 hi ∧ -270001 ≤ lo ∧ lo < hi ∧ hi ≤ 279000 ∧ Hid (lo = -270001 ∨ decide (u < FH lo) = false) ∧ Hid (hi = 279000 ∨ decide (u < FH hi) = true) ∧ Below w.heap.size w wr) (fun a b _ _ => (intOf b - intOf a).toNat)
  case atStart => exact ⟨-270001, 279000, rfl, rfl, by omega, by omega, by omega, Lib.hid (.inl rfl), Lib.hid (.inl rfl), by repeat (with_reducible first | exact Below.refl _ _ | assumption | refine Bel.alloc ?_ _ | refine Bel.step (by assumption) ?_ | refine Below.drew ?_ | refine Bel.drewN ?_ _ | refine Below.setCell ?_ (by first | exact Nat.le_refl _ | omega | (simp; done) | (simp; omega)) _)⟩
  case round =>
    obtain ⟨lo, hi, rfl, rfl, h1, h2, h3, H4, H5, hbel⟩ := hrel
    by_cases hlt : 1 < hi - lo
    · have hm := Fl_pos (lo + hi) 2 (by omega)
      have hm1 : lo < Fl (lo + hi) 2 ∧ Fl (lo + hi) 2 < hi := by rw [hm]; omega
      have HF := Lib.hid (show FH (Fl (lo + hi) 2) = fgHi (atD (Fl (lo + hi) 2)) (atT (Fl (lo + hi) 2)) from rfl)
      have hd : 1000 ≤ atD (Fl (lo + hi) 2) ∧ atD (Fl (lo + hi) 2) ≤ 9999 ∧ -40 ≤ atT (Fl (lo + hi) 2) ∧ atT (Fl (lo + hi) 2) ≤ 40 := by unfold atD atT; omega
      obtain ⟨d1, d2, d3, d4⟩ := hd
      obtain ⟨m1, m2⟩ := hm1
      clear hm
      by_cases hp : u < fgHi (atD (Fl (lo + hi) 2)) (atT (Fl (lo + hi) 2))
      · have HP := Lib.hid (show decide (u < FH (Fl (lo + hi) 2)) = true by rw [HF.out]; exact decide_eq_true hp)
        have HQ := Lib.hid (show decide (u < fgHi (atD (Fl (lo + hi) 2)) (atT (Fl (lo + hi) 2))) = true from decide_eq_true hp)
        clear hp
        go_wp2_with fail
        go_at_call 135; refine (l01Floor_c _ _ (by omega) (by omega) (by omega) (by omega) (by omega) _).mono ?_; rintro e w' ⟨rfl, rfl⟩
        generalize Fl (lo + hi) 2 = m at *
        go_wp2_with fail
        go_at_call 142; refine (l04At_c _ (by omega) (by omega) _).mono ?_; rintro e w2 ⟨rfl, hb2⟩; obtain ⟨hc2, hf2, hz2⟩ := bel hb2; (try simp only [World.size_drew, World.cell?_drew, World.frozen?_drew, World.heap_drewN, World.cell?_drewN, World.frozen?_drewN] at hc2 hf2 hz2); (try have hl2 : w.heap.size < w2.heap.size := zl hb2); (try have hm2 : w.heap.size + 1 < w2.heap.size := zl hb2); (try have hn2 : w.heap.size + 1 + 1 < w2.heap.size := zl hb2); (try have hp2 : b < w2.heap.size := zl hb2); (try have ho2 : b' < w2.heap.size := by (have hq := hb2.size; (try simp at hq); omega))
        go_wp2_with fail
        go_at_call 156; refine (l04Hi_c _ _ _ d1 d2 d3 d4 _).mono ?_; rintro e w3 ⟨rfl, hb3⟩; obtain ⟨hc3, hf3, hz3⟩ := bel hb3; (try simp only [World.size_drew, World.cell?_drew, World.frozen?_drew, World.heap_drewN, World.cell?_drewN, World.frozen?_drewN] at hc3 hf3 hz3); (try have hl3 : w.heap.size < w3.heap.size := zl hb3); (try have hm3 : w.heap.size + 1 < w3.heap.size := zl hb3); (try have hn3 : w.heap.size + 1 + 1 < w3.heap.size := zl hb3); (try have hp3 : b < w3.heap.size := zl hb3); (try have ho3 : b' < w3.heap.size := by (have hq := hb3.size; (try simp at hq); omega))
        rw [HQ.out]
        go_wp2
        go_roundw
        case rel => exact ⟨lo, m, rfl, rfl, h1, m1, by omega, H4, Lib.hid (.inr HP.out), by repeat (with_reducible first | exact Below.refl _ _ | assumption | refine Bel.alloc ?_ _ | refine Bel.step (by assumption) ?_ | refine Below.drew ?_ | refine Bel.drewN ?_ _ | refine Below.setCell ?_ (by first | exact Nat.le_refl _ | omega | (simp; done) | (simp; omega)) _)⟩
        case measure => simp [intOf]; omega
      · have HP := Lib.hid (show decide (u < FH (Fl (lo + hi) 2)) = false by rw [HF.out]; exact decide_eq_false hp)
        have HQ := Lib.hid (show decide (u < fgHi (atD (Fl (lo + hi) 2)) (atT (Fl (lo + hi) 2))) = false from decide_eq_false hp)
        clear hp
        go_wp2_with fail
        go_at_call 135; refine (l01Floor_c _ _ (by omega) (by omega) (by omega) (by omega) (by omega) _).mono ?_; rintro e w' ⟨rfl, rfl⟩
        generalize Fl (lo + hi) 2 = m at *
        go_wp2_with fail
        go_at_call 142; refine (l04At_c _ (by omega) (by omega) _).mono ?_; rintro e w2 ⟨rfl, hb2⟩; obtain ⟨hc2, hf2, hz2⟩ := bel hb2; (try simp only [World.size_drew, World.cell?_drew, World.frozen?_drew, World.heap_drewN, World.cell?_drewN, World.frozen?_drewN] at hc2 hf2 hz2); (try have hl2 : w.heap.size < w2.heap.size := zl hb2); (try have hm2 : w.heap.size + 1 < w2.heap.size := zl hb2); (try have hn2 : w.heap.size + 1 + 1 < w2.heap.size := zl hb2); (try have hp2 : b < w2.heap.size := zl hb2); (try have ho2 : b' < w2.heap.size := by (have hq := hb2.size; (try simp at hq); omega))
        go_wp2_with fail
        go_at_call 156; refine (l04Hi_c _ _ _ d1 d2 d3 d4 _).mono ?_; rintro e w3 ⟨rfl, hb3⟩; obtain ⟨hc3, hf3, hz3⟩ := bel hb3; (try simp only [World.size_drew, World.cell?_drew, World.frozen?_drew, World.heap_drewN, World.cell?_drewN, World.frozen?_drewN] at hc3 hf3 hz3); (try have hl3 : w.heap.size < w3.heap.size := zl hb3); (try have hm3 : w.heap.size + 1 < w3.heap.size := zl hb3); (try have hn3 : w.heap.size + 1 + 1 < w3.heap.size := zl hb3); (try have hp3 : b < w3.heap.size := zl hb3); (try have ho3 : b' < w3.heap.size := by (have hq := hb3.size; (try simp at hq); omega))
        rw [HQ.out]
        go_wp2
        go_roundw
        case rel => exact ⟨m, hi, rfl, rfl, by omega, m2, h3, Lib.hid (.inr HP.out), H5, by repeat (with_reducible first | exact Below.refl _ _ | assumption | refine Bel.alloc ?_ _ | refine Bel.step (by assumption) ?_ | refine Below.drew ?_ | refine Bel.drewN ?_ _ | refine Below.setCell ?_ (by first | exact Nat.le_refl _ | omega | (simp; done) | (simp; omega)) _)⟩
        case measure => simp [intOf]; omega
    · have HV := Lib.hid (fst_search (p := fun t => decide (u < FH t)) FH_dec h1 h3 (by omega) H4.out H5.out)
      go_wp2
      go_ret
      exact ⟨ret_int HV.out.symm, by repeat (with_reducible first | exact Below.refl _ _ | assumption | refine Bel.alloc ?_ _ | refine Bel.step (by assumption) ?_ | refine Below.drew ?_ | refine Bel.drewN ?_ _ | refine Below.setCell ?_ (by first | exact Nat.le_refl _ | omega | (simp; done) | (simp; omega)) _)⟩
theorem l04FirstLo_c (u : Int) (w : World) :
    Calls Tryz.prog 143 #[.int .i64 u, .bool false] w fun e w' => e = .returned (.int .i64 (fst (fun t => decide (u ≤ FL t)) (-270000) 549000)) ∧ Below w.heap.size w w' := by
  go_enter Tryz.func143, Tryz.ntmps143
  go_wp2
  go_loopw [5, 6, 7] (fun a b _ wr => ∃ lo hi : Int, a = .int .i64 lo ∧ b = .int .i64 hi ∧ -270001 ≤ lo ∧ lo < hi ∧ hi ≤ 279000 ∧ Hid (lo = -270001 ∨ decide (u ≤ FL lo) = false) ∧ Hid (hi = 279000 ∨ decide (u ≤ FL hi) = true) ∧ Below w.heap.size w wr) (fun a b _ _ => (intOf b - intOf a).toNat)
  case atStart => exact ⟨-270001, 279000, rfl, rfl, by omega, by omega, by omega, Lib.hid (.inl rfl), Lib.hid (.inl rfl), by repeat (with_reducible first | exact Below.refl _ _ | assumption | refine Bel.alloc ?_ _ | refine Bel.step (by assumption) ?_ | refine Below.drew ?_ | refine Bel.drewN ?_ _ | refine Below.setCell ?_ (by first | exact Nat.le_refl _ | omega | (simp; done) | (simp; omega)) _)⟩
  case round =>
    obtain ⟨lo, hi, rfl, rfl, h1, h2, h3, H4, H5, hbel⟩ := hrel
    by_cases hlt : 1 < hi - lo
    · have hm := Fl_pos (lo + hi) 2 (by omega)
      have hm1 : lo < Fl (lo + hi) 2 ∧ Fl (lo + hi) 2 < hi := by rw [hm]; omega
      have HF := Lib.hid (show FL (Fl (lo + hi) 2) = fgLo (atD (Fl (lo + hi) 2)) (atT (Fl (lo + hi) 2)) from rfl)
      have hd : 1000 ≤ atD (Fl (lo + hi) 2) ∧ atD (Fl (lo + hi) 2) ≤ 9999 ∧ -40 ≤ atT (Fl (lo + hi) 2) ∧ atT (Fl (lo + hi) 2) ≤ 40 := by unfold atD atT; omega
      obtain ⟨d1, d2, d3, d4⟩ := hd
      obtain ⟨m1, m2⟩ := hm1
      clear hm
      by_cases hp : u ≤ fgLo (atD (Fl (lo + hi) 2)) (atT (Fl (lo + hi) 2))
      · have HP := Lib.hid (show decide (u ≤ FL (Fl (lo + hi) 2)) = true by rw [HF.out]; exact decide_eq_true hp)
        have HQ := Lib.hid (show decide (u ≤ fgLo (atD (Fl (lo + hi) 2)) (atT (Fl (lo + hi) 2))) = true from decide_eq_true hp)
        clear hp
        go_wp2_with fail
        go_at_call 135; refine (l01Floor_c _ _ (by omega) (by omega) (by omega) (by omega) (by omega) _).mono ?_; rintro e w' ⟨rfl, rfl⟩
        generalize Fl (lo + hi) 2 = m at *
        go_wp2_with fail
        go_at_call 142; refine (l04At_c _ (by omega) (by omega) _).mono ?_; rintro e w2 ⟨rfl, hb2⟩; obtain ⟨hc2, hf2, hz2⟩ := bel hb2; (try simp only [World.size_drew, World.cell?_drew, World.frozen?_drew, World.heap_drewN, World.cell?_drewN, World.frozen?_drewN] at hc2 hf2 hz2); (try have hl2 : w.heap.size < w2.heap.size := zl hb2); (try have hm2 : w.heap.size + 1 < w2.heap.size := zl hb2); (try have hn2 : w.heap.size + 1 + 1 < w2.heap.size := zl hb2); (try have hp2 : b < w2.heap.size := zl hb2); (try have ho2 : b' < w2.heap.size := by (have hq := hb2.size; (try simp at hq); omega))
        go_wp2_with fail
        go_at_call 156; refine (l04Lo_c _ _ _ d1 d2 d3 d4 _).mono ?_; rintro e w3 ⟨rfl, hb3⟩; obtain ⟨hc3, hf3, hz3⟩ := bel hb3; (try simp only [World.size_drew, World.cell?_drew, World.frozen?_drew, World.heap_drewN, World.cell?_drewN, World.frozen?_drewN] at hc3 hf3 hz3); (try have hl3 : w.heap.size < w3.heap.size := zl hb3); (try have hm3 : w.heap.size + 1 < w3.heap.size := zl hb3); (try have hn3 : w.heap.size + 1 + 1 < w3.heap.size := zl hb3); (try have hp3 : b < w3.heap.size := zl hb3); (try have ho3 : b' < w3.heap.size := by (have hq := hb3.size; (try simp at hq); omega))
        rw [HQ.out]
        go_wp2
        go_roundw
        case rel => exact ⟨lo, m, rfl, rfl, h1, m1, by omega, H4, Lib.hid (.inr HP.out), by repeat (with_reducible first | exact Below.refl _ _ | assumption | refine Bel.alloc ?_ _ | refine Bel.step (by assumption) ?_ | refine Below.drew ?_ | refine Bel.drewN ?_ _ | refine Below.setCell ?_ (by first | exact Nat.le_refl _ | omega | (simp; done) | (simp; omega)) _)⟩
        case measure => simp [intOf]; omega
      · have HP := Lib.hid (show decide (u ≤ FL (Fl (lo + hi) 2)) = false by rw [HF.out]; exact decide_eq_false hp)
        have HQ := Lib.hid (show decide (u ≤ fgLo (atD (Fl (lo + hi) 2)) (atT (Fl (lo + hi) 2))) = false from decide_eq_false hp)
        clear hp
        go_wp2_with fail
        go_at_call 135; refine (l01Floor_c _ _ (by omega) (by omega) (by omega) (by omega) (by omega) _).mono ?_; rintro e w' ⟨rfl, rfl⟩
        generalize Fl (lo + hi) 2 = m at *
        go_wp2_with fail
        go_at_call 142; refine (l04At_c _ (by omega) (by omega) _).mono ?_; rintro e w2 ⟨rfl, hb2⟩; obtain ⟨hc2, hf2, hz2⟩ := bel hb2; (try simp only [World.size_drew, World.cell?_drew, World.frozen?_drew, World.heap_drewN, World.cell?_drewN, World.frozen?_drewN] at hc2 hf2 hz2); (try have hl2 : w.heap.size < w2.heap.size := zl hb2); (try have hm2 : w.heap.size + 1 < w2.heap.size := zl hb2); (try have hn2 : w.heap.size + 1 + 1 < w2.heap.size := zl hb2); (try have hp2 : b < w2.heap.size := zl hb2); (try have ho2 : b' < w2.heap.size := by (have hq := hb2.size; (try simp at hq); omega))
        go_wp2_with fail
        go_at_call 156; refine (l04Lo_c _ _ _ d1 d2 d3 d4 _).mono ?_; rintro e w3 ⟨rfl, hb3⟩; obtain ⟨hc3, hf3, hz3⟩ := bel hb3; (try simp only [World.size_drew, World.cell?_drew, World.frozen?_drew, World.heap_drewN, World.cell?_drewN, World.frozen?_drewN] at hc3 hf3 hz3); (try have hl3 : w.heap.size < w3.heap.size := zl hb3); (try have hm3 : w.heap.size + 1 < w3.heap.size := zl hb3); (try have hn3 : w.heap.size + 1 + 1 < w3.heap.size := zl hb3); (try have hp3 : b < w3.heap.size := zl hb3); (try have ho3 : b' < w3.heap.size := by (have hq := hb3.size; (try simp at hq); omega))
        rw [HQ.out]
        go_wp2
        go_roundw
        case rel => exact ⟨m, hi, rfl, rfl, by omega, m2, h3, Lib.hid (.inr HP.out), H5, by repeat (with_reducible first | exact Below.refl _ _ | assumption | refine Bel.alloc ?_ _ | refine Bel.step (by assumption) ?_ | refine Below.drew ?_ | refine Bel.drewN ?_ _ | refine Below.setCell ?_ (by first | exact Nat.le_refl _ | omega | (simp; done) | (simp; omega)) _)⟩
        case measure => simp [intOf]; omega
    · have HV := Lib.hid (fst_search (p := fun t => decide (u ≤ FL t)) FL_dec h1 h3 (by omega) H4.out H5.out)
      go_wp2
      go_ret
      exact ⟨ret_int HV.out.symm, by repeat (with_reducible first | exact Below.refl _ _ | assumption | refine Bel.alloc ?_ _ | refine Bel.step (by assumption) ?_ | refine Below.drew ?_ | refine Bel.drewN ?_ _ | refine Below.setCell ?_ (by first | exact Nat.le_refl _ | omega | (simp; done) | (simp; omega)) _)⟩
theorem l04Below_c (u : Int) (w : World) :
    Calls Tryz.prog 115 #[.int .i64 u] w fun e w' => e = .returned (.agg #[.int .i64 (atD (nBw u)), .int .i64 (atT (nBw u))]) ∧ Below w.heap.size w w' := by
  have HV := Lib.hid (show nBw u = fst (fun t => decide (u < FH t)) (-270000) 549000 - 1 from rfl)
  obtain ⟨b1, b2⟩ := fst_bd (fun t => decide (u < FH t)) 549000 (-270000)
  go_enter Tryz.func115, Tryz.ntmps115
  go_wp2_with fail
  go_at_call 143; refine (l04FirstHi_c _ _).mono ?_; rintro e w1 ⟨rfl, hb1⟩; obtain ⟨hc1, hf1, hz1⟩ := bel hb1; (try simp only [World.size_drew, World.cell?_drew, World.frozen?_drew, World.heap_drewN, World.cell?_drewN, World.frozen?_drewN] at hc1 hf1 hz1); (try have hl1 : w.heap.size < w1.heap.size := zl hb1); (try have hm1 : w.heap.size + 1 < w1.heap.size := zl hb1); (try have hn1 : w.heap.size + 1 + 1 < w1.heap.size := zl hb1); (try have hp1 : b < w1.heap.size := zl hb1); (try have ho1 : b' < w1.heap.size := by (have hq := hb1.size; (try simp at hq); omega))
  generalize fst (fun t => decide (u < FH t)) (-270000) 549000 = m at *
  go_wp2_with fail
  go_at_call 142; refine (l04At_c _ (by omega) (by omega) _).mono ?_; rintro e w2 ⟨rfl, hb2⟩; obtain ⟨hc2, hf2, hz2⟩ := bel hb2; (try simp only [World.size_drew, World.cell?_drew, World.frozen?_drew, World.heap_drewN, World.cell?_drewN, World.frozen?_drewN] at hc2 hf2 hz2); (try have hl2 : w.heap.size < w2.heap.size := zl hb2); (try have hm2 : w.heap.size + 1 < w2.heap.size := zl hb2); (try have hn2 : w.heap.size + 1 + 1 < w2.heap.size := zl hb2); (try have hp2 : b < w2.heap.size := zl hb2); (try have ho2 : b' < w2.heap.size := by (have hq := hb2.size; (try simp at hq); omega))
  go_wp2
  refine bodyPost_ret (v := .agg #[.int .i64 (atD (m - 1)), .int .i64 (atT (m - 1))]) (by simp [results, Tryz.results115, go_sem, *]) rfl ⟨by rw [HV.out], by repeat (with_reducible first | exact Below.refl _ _ | assumption | refine Bel.alloc ?_ _ | refine Bel.step (by assumption) ?_ | refine Below.drew ?_ | refine Bel.drewN ?_ _ | refine Below.setCell ?_ (by first | exact Nat.le_refl _ | omega | (simp; done) | (simp; omega)) _)⟩
theorem l04Above_c (u : Int) (w : World) :
    Calls Tryz.prog 116 #[.int .i64 u] w fun e w' => e = .returned (.agg #[.int .i64 (atD (nAb u)), .int .i64 (atT (nAb u))]) ∧ Below w.heap.size w w' := by
  have HV := Lib.hid (show nAb u = fst (fun t => decide (u ≤ FL t)) (-270000) 549000 from rfl)
  obtain ⟨b1, b2⟩ := fst_bd (fun t => decide (u ≤ FL t)) 549000 (-270000)
  go_enter Tryz.func116, Tryz.ntmps116
  go_wp2_with fail
  go_at_call 143; refine (l04FirstLo_c _ _).mono ?_; rintro e w1 ⟨rfl, hb1⟩; obtain ⟨hc1, hf1, hz1⟩ := bel hb1; (try simp only [World.size_drew, World.cell?_drew, World.frozen?_drew, World.heap_drewN, World.cell?_drewN, World.frozen?_drewN] at hc1 hf1 hz1); (try have hl1 : w.heap.size < w1.heap.size := zl hb1); (try have hm1 : w.heap.size + 1 < w1.heap.size := zl hb1); (try have hn1 : w.heap.size + 1 + 1 < w1.heap.size := zl hb1); (try have hp1 : b < w1.heap.size := zl hb1); (try have ho1 : b' < w1.heap.size := by (have hq := hb1.size; (try simp at hq); omega))
  generalize fst (fun t => decide (u ≤ FL t)) (-270000) 549000 = m at *
  go_wp2_with fail
  go_at_call 142; refine (l04At_c _ (by omega) (by omega) _).mono ?_; rintro e w2 ⟨rfl, hb2⟩; obtain ⟨hc2, hf2, hz2⟩ := bel hb2; (try simp only [World.size_drew, World.cell?_drew, World.frozen?_drew, World.heap_drewN, World.cell?_drewN, World.frozen?_drewN] at hc2 hf2 hz2); (try have hl2 : w.heap.size < w2.heap.size := zl hb2); (try have hm2 : w.heap.size + 1 < w2.heap.size := zl hb2); (try have hn2 : w.heap.size + 1 + 1 < w2.heap.size := zl hb2); (try have hp2 : b < w2.heap.size := zl hb2); (try have ho2 : b' < w2.heap.size := by (have hq := hb2.size; (try simp at hq); omega))
  go_wp2
  refine bodyPost_ret (v := .agg #[.int .i64 (atD m), .int .i64 (atT m)]) (by simp [results, Tryz.results116, go_sem, *]) rfl ⟨by rw [HV.out], by repeat (with_reducible first | exact Below.refl _ _ | assumption | refine Bel.alloc ?_ _ | refine Bel.step (by assumption) ?_ | refine Below.drew ?_ | refine Bel.drewN ?_ _ | refine Below.setCell ?_ (by first | exact Nat.le_refl _ | omega | (simp; done) | (simp; omega)) _)⟩
/-- What a search hands back: the first of n places of which p holds, or n. -/
def SrchQ (n : Nat) (p : Nat → Bool) (w : World) (e : Ending) (w' : World) : Prop := ∃ i : Nat, e = .returned (.int .i64 i) ∧ i ≤ n ∧ (∀ j : Nat, j < i → p j = false) ∧ (i = n ∨ p i = true) ∧ Below w.heap.size w w'
set_option maxHeartbeats 1000000 in
theorem sortSearch_c (g : Nat) (cb : Array Value) (n : Nat) (p : Nat → Bool) (w : World) (eg : ∀ args w, (callFunc g args).run Tryz.prog w = .ok (.enter g args) w) (hsz : n < 4611686018427387904)
    (hf : ∀ (i : Nat) (W : World), i < n → Below w.heap.size w W → Calls Tryz.prog g (#[.int .i64 i] ++ cb) W fun e w' => e = .returned (.bool (p i)) ∧ Below W.heap.size W w')
    (hmono : ∀ a b, a ≤ b → b < n → p a = true → p b = true) :
    Calls Tryz.prog 137 #[.int .i64 n, .func (.func g) #[] cb] w (SrchQ n p w) := by
  have HF := Lib.hid hf
  have M := Lib.hid hmono
  clear hf hmono
  go_enter Tryz.func137, Tryz.ntmps137
  go_wp2
  go_loopw [5, 6, 7] (fun s5 s6 _ wr => ∃ lo hi : Nat, s5 = .int .i64 lo ∧ s6 = .int .i64 hi ∧ lo ≤ hi ∧ hi ≤ n ∧ Hid ((∀ t, t < lo → p t = false) ∧ (∀ t, hi ≤ t → t < n → p t = true)) ∧ Below w.heap.size w wr) (fun a b _ _ => (intOf b - intOf a).toNat)
  case atStart => exact ⟨0, n, rfl, rfl, Nat.zero_le _, Nat.le_refl _, Lib.hid ⟨fun t ht => absurd ht (Nat.not_lt_zero _), fun t h1 h2 => by omega⟩, by repeat (with_reducible first | exact Below.refl _ _ | assumption | refine Bel.alloc ?_ _ | refine Bel.step (by assumption) ?_ | refine Below.drew ?_ | refine Bel.drewN ?_ _ | refine Below.setCell ?_ (by first | exact Nat.le_refl _ | omega | (simp; done) | (simp; omega)) _)⟩
  case round =>
    obtain ⟨lo, hi, rfl, rfl, hlh, hin, I, hbel⟩ := hrel
    by_cases hlt : lo < hi
    · have hc := HF.out ((lo + hi) / 2) wr (by omega) hbel
      rw [show (((lo + hi) / 2 : Nat) : Int) = ((lo : Int) + (hi : Int)) / 2 by omega] at hc
      cases hp : p ((lo + hi) / 2) <;> rw [hp] at hc
      · have HP := Lib.hid hp
        clear hp
        go_wp2_with fail
        refine hc.mono ?_; rintro e w1 ⟨rfl, hb1⟩
        clear hc
        go_wp2
        go_roundw
        case rel =>
          refine ⟨(lo + hi) / 2 + 1, hi, by rw [show ((lo : Int) + (hi : Int)) / 2 + 1 = (((lo + hi) / 2 + 1 : Nat) : Int) by omega], rfl, by omega, hin, Lib.hid ⟨fun t ht => ?_, I.out.2⟩, by repeat (with_reducible first | exact Below.refl _ _ | assumption | refine Bel.alloc ?_ _ | refine Bel.step (by assumption) ?_ | refine Below.drew ?_ | refine Bel.drewN ?_ _ | refine Below.setCell ?_ (by first | exact Nat.le_refl _ | omega | (simp; done) | (simp; omega)) _)⟩
          cases h : p t with
          | false => rfl
          | true => have := M.out t ((lo + hi) / 2) (by omega) (by omega) h; rw [HP.out] at this; cases this
        case measure => simp [intOf]; omega
      · have HP := Lib.hid hp
        clear hp
        go_wp2_with fail
        refine hc.mono ?_; rintro e w1 ⟨rfl, hb1⟩
        clear hc
        go_wp2
        go_roundw
        case rel => exact ⟨lo, (lo + hi) / 2, rfl, by rw [show ((lo : Int) + (hi : Int)) / 2 = (((lo + hi) / 2 : Nat) : Int) by omega], by omega, by omega, Lib.hid ⟨I.out.1, fun t ht htn => M.out ((lo + hi) / 2) t ht htn HP.out⟩, by repeat (with_reducible first | exact Below.refl _ _ | assumption | refine Bel.alloc ?_ _ | refine Bel.step (by assumption) ?_ | refine Below.drew ?_ | refine Bel.drewN ?_ _ | refine Below.setCell ?_ (by first | exact Nat.le_refl _ | omega | (simp; done) | (simp; omega)) _)⟩
        case measure => simp [intOf]; omega
    · obtain rfl : hi = lo := by omega
      go_wp2
      go_ret
      exact ⟨hi, rfl, hin, I.out.1, by rcases Nat.lt_or_eq_of_le hin with h | h; exact .inr (I.out.2 hi (Nat.le_refl _) h); exact .inl h, by repeat (with_reducible first | exact Below.refl _ _ | assumption | refine Bel.alloc ?_ _ | refine Bel.step (by assumption) ?_ | refine Below.drew ?_ | refine Bel.drewN ?_ _ | refine Below.setCell ?_ (by first | exact Nat.le_refl _ | omega | (simp; done) | (simp; omega)) _)⟩
theorem belowClosure_c (bt bu : Nat) (i : Nat) (q u : Int) (hq1 : -40 ≤ q) (hq2 : q ≤ 40) (hi : i < 9000) (W : World) (ht : W.cell? ⟨bt, 0, none⟩ = some (.int .i64 q)) (hu : W.cell? ⟨bu, 0, none⟩ = some (.int .i64 u)) (lt : bt < W.heap.size) (lu : bu < W.heap.size) :
    Calls Tryz.prog 138 #[.int .i64 i, .pointer (some ⟨bt, 0, none⟩), .pointer (some ⟨bu, 0, none⟩)] W fun e w' => e = .returned (.bool (decide (u < fgHi (1000 + i) q))) ∧ Below W.heap.size W w' := by
  have hfd : ∀ (w : World) (a b : Int), (Instr.field 92 (.agg #[.int .i64 a, .int .i64 b]) 1).run Tryz.prog w = .ok (.int .i64 b) w := fun _ _ _ => by kernel_rfl
  have e1 : IntKind.i64.wrap (1000 + (i : Int)) = 1000 + (i : Int) := wr64 (by omega) (by omega)
  have a1 : 1000 ≤ 1000 + (i : Int) := by omega
  have a2 : 1000 + (i : Int) ≤ 9999 := by omega
  go_enter Tryz.func138, Tryz.ntmps138
  go_wp2
  go_region_held3 (fun w' => w'.cell? ⟨bt, 0, none⟩ = some (.int .i64 q) ∧ w'.cell? ⟨bu, 0, none⟩ = some (.int .i64 u)) (simp [go_sem, *])
      (first | (go_at_call 108; refine (figureLog_c (1000 + (i : Int)) q a1 a2 hq1 hq2 _).mono ?_; rintro e wx ⟨rfl, hbx⟩; obtain ⟨hcx, hfx, hzx⟩ := bel hbx; (try simp only [World.size_drew, World.cell?_drew, World.frozen?_drew, World.heap_drewN, World.cell?_drewN, World.frozen?_drewN] at hcx hfx hzx); (try have hlx : w.heap.size < wx.heap.size := zl hbx); (try have hmx : w.heap.size + 1 < wx.heap.size := zl hbx); (try have hnx : w.heap.size + 1 + 1 < wx.heap.size := zl hbx); (try have hpx : b < wx.heap.size := zl hbx); (try have hox : b' < wx.heap.size := by (have hq := hbx.size; (try simp at hq); omega))))
  all_goals
    go_wp2
    go_ret
    exact ⟨rfl, by repeat (with_reducible first | exact Below.refl _ _ | assumption | refine Bel.alloc ?_ _ | refine Bel.step (by assumption) ?_ | refine Below.drew ?_ | refine Bel.drewN ?_ _ | refine Below.setCell ?_ (by first | exact Nat.le_refl _ | omega | (simp; done) | (simp; omega)) _)⟩
theorem aboveClosure_c (bt bu : Nat) (i : Nat) (q u : Int) (hq1 : -40 ≤ q) (hq2 : q ≤ 40) (hi : i < 9000) (W : World) (ht : W.cell? ⟨bt, 0, none⟩ = some (.int .i64 q)) (hu : W.cell? ⟨bu, 0, none⟩ = some (.int .i64 u)) (lt : bt < W.heap.size) (lu : bu < W.heap.size) :
    Calls Tryz.prog 139 #[.int .i64 i, .pointer (some ⟨bt, 0, none⟩), .pointer (some ⟨bu, 0, none⟩)] W fun e w' => e = .returned (.bool (decide (u ≤ fgLo (1000 + i) q))) ∧ Below W.heap.size W w' := by
  have hfd : ∀ (w : World) (a b : Int), (Instr.field 92 (.agg #[.int .i64 a, .int .i64 b]) 0).run Tryz.prog w = .ok (.int .i64 a) w := fun _ _ _ => by kernel_rfl
  have e1 : IntKind.i64.wrap (1000 + (i : Int)) = 1000 + (i : Int) := wr64 (by omega) (by omega)
  have a1 : 1000 ≤ 1000 + (i : Int) := by omega
  have a2 : 1000 + (i : Int) ≤ 9999 := by omega
  go_enter Tryz.func139, Tryz.ntmps139
  go_wp2
  go_region_held3 (fun w' => w'.cell? ⟨bt, 0, none⟩ = some (.int .i64 q) ∧ w'.cell? ⟨bu, 0, none⟩ = some (.int .i64 u)) (simp [go_sem, *])
      (first | (go_at_call 108; refine (figureLog_c (1000 + (i : Int)) q a1 a2 hq1 hq2 _).mono ?_; rintro e wx ⟨rfl, hbx⟩; obtain ⟨hcx, hfx, hzx⟩ := bel hbx; (try simp only [World.size_drew, World.cell?_drew, World.frozen?_drew, World.heap_drewN, World.cell?_drewN, World.frozen?_drewN] at hcx hfx hzx); (try have hlx : w.heap.size < wx.heap.size := zl hbx); (try have hmx : w.heap.size + 1 < wx.heap.size := zl hbx); (try have hnx : w.heap.size + 1 + 1 < wx.heap.size := zl hbx); (try have hpx : b < wx.heap.size := zl hbx); (try have hox : b' < wx.heap.size := by (have hq := hbx.size; (try simp at hq); omega))))
  all_goals
    go_wp2
    go_ret
    exact ⟨rfl, by repeat (with_reducible first | exact Below.refl _ _ | assumption | refine Bel.alloc ?_ _ | refine Bel.step (by assumption) ?_ | refine Below.drew ?_ | refine Bel.drewN ?_ _ | refine Below.setCell ?_ (by first | exact Nat.le_refl _ | omega | (simp; done) | (simp; omega)) _)⟩
theorem hi_mono_i {u q : Int} : ∀ a b : Nat, a ≤ b → b < 9000 → decide (u < fgHi (1000 + a) q) = true → decide (u < fgHi (1000 + b) q) = true := by
  intro a b h hb
  have := lgHi_mono (x := (1000 + (a : Int)) * 100000) (y := (1000 + (b : Int)) * 100000) (by omega) (by omega) (by omega)
  simp only [decide_eq_true_eq]; unfold fgHi; omega
theorem lo_mono_i {u q : Int} : ∀ a b : Nat, a ≤ b → b < 9000 → decide (u ≤ fgLo (1000 + a) q) = true → decide (u ≤ fgLo (1000 + b) q) = true := by
  intro a b h hb
  have := lgLo_mono (x := (1000 + (a : Int)) * 100000) (y := (1000 + (b : Int)) * 100000) (by omega) (by omega) (by omega)
  simp only [decide_eq_true_eq]; unfold fgLo; omega
def bwOk (u : Int) : Bool := okF (atD (nBw u)) (atT (nBw u))
def abOk (u : Int) : Bool := okF (atD (nAb u)) (atT (nAb u))
def bwV (u x : Int) : Int := if bwOk u then x else 0
theorem atD_bd (n : Int) : 1000 ≤ atD n ∧ atD n ≤ 9999 := by unfold atD; omega
theorem bwOk_of {u q : Int} (h : atT (nBw u) = q) (h1 : -30 ≤ q) (h2 : q ≤ 30) : bwOk u = true := by
  have := atD_bd (nBw u)
  simp only [bwOk, okF, Bool.and_eq_true, inB_iff]; omega
theorem isUnits_c (n : Int) (w : World) :
    Calls Tryz.prog 105 #[.int .i64 n] w fun e w' => e = .returned (.bool (inB n (-31457280) 31457280)) ∧ w = w' := by
  go_enter Tryz.func105, Tryz.ntmps105
  go_wp2_with (first | (go_at_call 71; refine (within_c _ _ _ _).mono ?_; rintro e w' ⟨rfl, rfl⟩))
  go_ret
  exact ⟨rfl, rfl⟩
theorem l04Units_c (n : Int) (w : World) :
    Calls Tryz.prog 114 #[.int .i64 n] w fun e w' => e = .returned (.bool (inB n (-31457280) 31457280)) ∧ w = w' := by
  go_enter Tryz.func114, Tryz.ntmps114
  go_wp2_with (first | (go_at_call 55; refine (l01In_c _ _ _ _).mono ?_; rintro e w' ⟨rfl, rfl⟩))
  go_ret
  exact ⟨rfl, rfl⟩
theorem belowSearch_c (b : Nat) (u q : Int) (hq1 : -40 ≤ q) (hq2 : q ≤ 40) (bt bu : Nat) (W : World) (ht : W.cell? ⟨bt, 0, none⟩ = some (.int .i64 q)) (hu : W.cell? ⟨bu, 0, none⟩ = some (.int .i64 u)) (lt : bt < W.heap.size) (lu : bu < W.heap.size) :
    Calls Tryz.prog 137 #[.int .i64 9000, .func (.func 138) #[] #[.pointer (some ⟨bt, 0, none⟩), .pointer (some ⟨bu, 0, none⟩)]] W (SrchQ 9000 (fun i => decide (u < fgHi (1000 + i) q)) W) :=
  sortSearch_c 138 _ 9000 _ W (enters_of Tryz.func138 (by kernel_rfl) rfl) (by omega)
    (fun i W' hi hb => belowClosure_c bt bu i q u hq1 hq2 hi W' ((hb.cell (p := ⟨bt, 0, none⟩) lt).trans ht) ((hb.cell (p := ⟨bu, 0, none⟩) lu).trans hu) (Nat.lt_of_lt_of_le lt hb.size) (Nat.lt_of_lt_of_le lu hb.size)) hi_mono_i
theorem figureBelow_c (u : Int) (h1 : -31457280 ≤ u) (h2 : u ≤ 31457280) (w : World) :
    Calls Tryz.prog 106 #[.int .i64 u] w fun e w' => e = .returned (.tuple #[.agg #[.int .i64 (bwV u (atD (nBw u))), .int .i64 (bwV u (atT (nBw u)))], .bool (bwOk u)]) ∧ Below w.heap.size w w' := by
  have hF := Fl_pos (u - 1) 1048576 (by omega)
  by_cases hu : u = -31457280
  · have HN := Lib.hid (bw_none hu)
    have hq : Fl (u - 1) 1048576 < -30 := by rw [hF]; omega
    have hq' : -100 ≤ Fl (u - 1) 1048576 := by rw [hF]; omega
    clear hF hu
    go_enter Tryz.func106, Tryz.ntmps106
    go_wp2_with fail
    go_at_call 134; refine (down_c _ _ (by omega) (by omega) (by omega) (by omega) (by omega) _).mono ?_; rintro e w' ⟨rfl, rfl⟩
    generalize Fl (u - 1) 1048576 = q at *
    go_wp2
    refine bodyPost_ret (v := .tuple #[.agg #[.int .i64 0, .int .i64 0], .bool false]) (by simp [results, Tryz.results106, go_sem, *]) rfl ⟨by unfold bwV bwOk; rw [HN.out]; rfl, by repeat (with_reducible first | exact Below.refl _ _ | assumption | refine Bel.alloc ?_ _ | refine Bel.step (by assumption) ?_ | refine Below.drew ?_ | refine Bel.drewN ?_ _ | refine Below.setCell ?_ (by first | exact Nat.le_refl _ | omega | (simp; done) | (simp; omega)) _)⟩
  · have hq1 : -30 ≤ Fl (u - 1) 1048576 := by rw [hF]; omega
    have hq2 : Fl (u - 1) 1048576 ≤ 30 := by rw [hF]; omega
    have hq3 : -40 ≤ Fl (u - 1) 1048576 := by omega
    have hq4 : Fl (u - 1) 1048576 ≤ 40 := by omega
    obtain ⟨q, HQ⟩ : ∃ q, Hid (q = Fl (u - 1) 1048576) := ⟨_, Lib.hid rfl⟩
    clear hF hu
    go_enter Tryz.func106, Tryz.ntmps106
    go_wp2_with fail
    go_at_call 134; refine (down_c _ _ (by omega) (by omega) (by omega) (by omega) (by omega) _).mono ?_; rintro e w' ⟨rfl, rfl⟩
    rw [← HQ.out] at hq1 hq2 hq3 hq4 ⊢
    go_wp2_with fail
    refine (belowSearch_c 0 u q hq3 hq4 _ _ _ (by simp [go_sem]) (by simp [go_sem]) (by simp) (by simp; omega)).mono ?_; rintro e w1 ⟨i, rfl, hi, h3, h4, hb1⟩
    have HV := Lib.hid (bw_found HQ.out hq1 h2 hi h3 h4)
    have HO := Lib.hid (bwOk_of HV.out.2 hq1 hq2)
    obtain ⟨hc1, hf1, hz1⟩ := bel hb1
    have hl1 : w.heap.size + 1 + 1 < w1.heap.size := by have := hb1.size; simp at this; omega
    clear h3 h4
    go_wp2
    refine bodyPost_ret (v := .tuple #[.agg #[.int .i64 (999 + i), .int .i64 q], .bool true]) (by simp [results, Tryz.results106, go_sem, *]) rfl ⟨by unfold bwV; rw [HO.out, HV.out.1, HV.out.2]; rfl, by repeat (with_reducible first | exact Below.refl _ _ | assumption | refine Bel.alloc ?_ _ | refine Bel.step (by assumption) ?_ | refine Below.drew ?_ | refine Bel.drewN ?_ _ | refine Below.setCell ?_ (by first | exact Nat.le_refl _ | omega | (simp; done) | (simp; omega)) _)⟩
theorem aboveSearch_c (u q : Int) (hq1 : -40 ≤ q) (hq2 : q ≤ 40) (bt bu : Nat) (W : World) (ht : W.cell? ⟨bt, 0, none⟩ = some (.int .i64 q)) (hu : W.cell? ⟨bu, 0, none⟩ = some (.int .i64 u)) (lt : bt < W.heap.size) (lu : bu < W.heap.size) :
    Calls Tryz.prog 137 #[.int .i64 9000, .func (.func 139) #[] #[.pointer (some ⟨bt, 0, none⟩), .pointer (some ⟨bu, 0, none⟩)]] W (SrchQ 9000 (fun i => decide (u ≤ fgLo (1000 + i) q)) W) :=
  sortSearch_c 139 _ 9000 _ W (enters_of Tryz.func139 (by kernel_rfl) rfl) (by omega)
    (fun i W' hi hb => aboveClosure_c bt bu i q u hq1 hq2 hi W' ((hb.cell (p := ⟨bt, 0, none⟩) lt).trans ht) ((hb.cell (p := ⟨bu, 0, none⟩) lu).trans hu) (Nat.lt_of_lt_of_le lt hb.size) (Nat.lt_of_lt_of_le lu hb.size)) lo_mono_i
theorem figureAbove_c (u : Int) (h1 : -31457280 ≤ u) (h2 : u ≤ 31457280) (w : World) :
    Calls Tryz.prog 107 #[.int .i64 u] w fun e w' => e = .returned (.tuple #[.agg #[.int .i64 (atD (nAb u)), .int .i64 (atT (nAb u))], .bool (abOk u)]) ∧ Below w.heap.size w w' := by
  have hF := Fl_pos u 1048576 (by omega)
  have hq1 : -30 ≤ Fl u 1048576 := by rw [hF]; omega
  have hq2 : Fl u 1048576 ≤ 30 := by rw [hF]; omega
  have hq3 : -40 ≤ Fl u 1048576 := by omega
  have hq4 : Fl u 1048576 ≤ 40 := by omega
  obtain ⟨q, HQ⟩ : ∃ q, Hid (q = Fl u 1048576) := ⟨_, Lib.hid rfl⟩
  clear hF
  go_enter Tryz.func107, Tryz.ntmps107
  go_wp2_with fail
  go_at_call 134; refine (down_c _ _ (by omega) (by omega) (by omega) (by omega) (by omega) _).mono ?_; rintro e w' ⟨rfl, rfl⟩
  rw [← HQ.out] at hq1 hq2 hq3 hq4 ⊢
  go_wp2_with fail
  refine (aboveSearch_c u q hq3 hq4 _ _ _ (by simp [go_sem]) (by simp [go_sem]) (by simp) (by simp; omega)).mono ?_; rintro e w1 ⟨i, rfl, hi, h3, h4, hb1⟩
  have HV := Lib.hid (ab_found HQ.out h1 h2 hi h3 h4)
  obtain ⟨hc1, hf1, hz1⟩ := bel hb1
  have hl1 : w.heap.size + 1 + 1 < w1.heap.size := by have := hb1.size; simp at this; omega
  clear h3 h4
  by_cases h9 : i = 9000
  · have b9 : ((i : Int) == 9000) = true := by simp; omega
    have HD := Lib.hid (show atD (nAb u) = 1000 ∧ atT (nAb u) = q + 1 by rw [HV.out]; unfold atD atT; omega)
    have HO := Lib.hid (show abOk u = okF 1000 (q + 1) by unfold abOk; rw [HD.out.1, HD.out.2])
    clear h9
    go_wp2
    have ly0 : w.heap.size + 1 < w1.heap.size := by omega
    have sr0 : w1.cell? ⟨w.heap.size + 1, 0, none⟩ = some (.int .i64 0) := by simp [go_sem, *]
    have sr1 : w1.cell? ⟨w.heap.size + 1, 1, none⟩ = some (.int .i64 0) := by simp [go_sem, *]
    have sg0 : w1.frozen? ⟨w.heap.size + 1, 0, none⟩ = false := by simp [go_sem, *]
    have sg1 : w1.frozen? ⟨w.heap.size + 1, 1, none⟩ = false := by simp [go_sem, *]
    generalize hV : w1.alloc (.cells #[.int .i64 1000, .int .i64 (q + 1)] 25) = V
    have hbV : Below w1.heap.size w1 V := by rw [← hV]; repeat (with_reducible first | exact Below.refl _ _ | assumption | refine Bel.alloc ?_ _ | refine Bel.step (by assumption) ?_ | refine Below.drew ?_ | refine Bel.drewN ?_ _ | refine Below.setCell ?_ (by first | exact Nat.le_refl _ | omega | (simp; done) | (simp; omega)) _)
    have y0 : V.cell? ⟨w1.heap.size, 0, none⟩ = some (.int .i64 1000) := by rw [← hV]; simp [go_sem]
    have y1 : V.cell? ⟨w1.heap.size, 1, none⟩ = some (.int .i64 (q + 1)) := by rw [← hV]; simp [go_sem]
    have y2 : w1.heap.size < V.heap.size := by rw [← hV]; simp
    have hbelV : Below w.heap.size w V := Bel.step hbV (by repeat (with_reducible first | exact Below.refl _ _ | assumption | refine Bel.alloc ?_ _ | refine Bel.step (by assumption) ?_ | refine Below.drew ?_ | refine Bel.drewN ?_ _ | refine Below.setCell ?_ (by first | exact Nat.le_refl _ | omega | (simp; done) | (simp; omega)) _))
    have ly : w.heap.size + 1 < V.heap.size := by omega
    have ny : w.heap.size + 1 ≠ w1.heap.size := by omega
    have nz : w1.heap.size ≠ w.heap.size + 1 := by omega
    have r0 : V.cell? ⟨w.heap.size + 1, 0, none⟩ = some (.int .i64 0) := ((bel hbV).1 _ _ ly0).trans sr0
    have r1 : V.cell? ⟨w.heap.size + 1, 1, none⟩ = some (.int .i64 0) := ((bel hbV).1 _ _ ly0).trans sr1
    have g0 : V.frozen? ⟨w.heap.size + 1, 0, none⟩ = false := ((bel hbV).2.1 _ _ ly0).trans sg0
    have g1 : V.frozen? ⟨w.heap.size + 1, 1, none⟩ = false := ((bel hbV).2.1 _ _ ly0).trans sg1
    clear hV hbV hb1 hc1 hf1 hz1 sr0 sr1 sg0 sg1
    generalize w1.heap.size = X at *
    go_region_held3 (fun w' => w'.cell? ⟨X, 0, none⟩ = some (.int .i64 1000) ∧ w'.cell? ⟨X, 1, none⟩ = some (.int .i64 (q + 1))) (simp [go_sem, *])
        (first | (go_at_call 67; refine (IsFigure_I _ _ _).mono ?_; rintro e wx ⟨rfl, hbx⟩; obtain ⟨hcx, hfx, hzx⟩ := bel hbx; (try simp only [World.size_drew, World.cell?_drew, World.frozen?_drew, World.heap_drewN, World.cell?_drewN, World.frozen?_drewN] at hcx hfx hzx); (try have hlx : w.heap.size < wx.heap.size := zl hbx); (try have hmx : w.heap.size + 1 < wx.heap.size := zl hbx); (try have hnx : w.heap.size + 1 + 1 < wx.heap.size := zl hbx); (try have hpx : b < wx.heap.size := zl hbx); (try have hox : b' < wx.heap.size := by (have hq := hbx.size; (try simp at hq); omega))))
    all_goals
      go_wp2
      refine bodyPost_ret (v := .tuple #[.agg #[.int .i64 1000, .int .i64 (q + 1)], .bool (okF 1000 (q + 1))]) (by simp [results, Tryz.results107, go_sem, *]) rfl ⟨by rw [HO.out, HD.out.1, HD.out.2], by repeat (with_reducible first | exact Below.refl _ _ | assumption | refine Bel.alloc ?_ _ | refine Bel.step (by assumption) ?_ | refine Below.drew ?_ | refine Bel.drewN ?_ _ | refine Below.setCell ?_ (by first | exact Nat.le_refl _ | omega | (simp; done) | (simp; omega)) _)⟩
  · have b9 : ((i : Int) == 9000) = false := by simp; omega
    have HD := Lib.hid (show atD (nAb u) = 1000 + i ∧ atT (nAb u) = q by rw [HV.out]; unfold atD atT; omega)
    have HO := Lib.hid (show abOk u = okF (1000 + i) q by unfold abOk; rw [HD.out.1, HD.out.2])
    clear h9
    go_wp2
    have ly0 : w.heap.size + 1 < w1.heap.size := by omega
    have sr0 : w1.cell? ⟨w.heap.size + 1, 0, none⟩ = some (.int .i64 0) := by simp [go_sem, *]
    have sr1 : w1.cell? ⟨w.heap.size + 1, 1, none⟩ = some (.int .i64 0) := by simp [go_sem, *]
    have sg0 : w1.frozen? ⟨w.heap.size + 1, 0, none⟩ = false := by simp [go_sem, *]
    have sg1 : w1.frozen? ⟨w.heap.size + 1, 1, none⟩ = false := by simp [go_sem, *]
    generalize hV : w1.alloc (.cells #[.int .i64 (1000 + i), .int .i64 q] 25) = V
    have hbV : Below w1.heap.size w1 V := by rw [← hV]; repeat (with_reducible first | exact Below.refl _ _ | assumption | refine Bel.alloc ?_ _ | refine Bel.step (by assumption) ?_ | refine Below.drew ?_ | refine Bel.drewN ?_ _ | refine Below.setCell ?_ (by first | exact Nat.le_refl _ | omega | (simp; done) | (simp; omega)) _)
    have y0 : V.cell? ⟨w1.heap.size, 0, none⟩ = some (.int .i64 (1000 + i)) := by rw [← hV]; simp [go_sem]
    have y1 : V.cell? ⟨w1.heap.size, 1, none⟩ = some (.int .i64 q) := by rw [← hV]; simp [go_sem]
    have y2 : w1.heap.size < V.heap.size := by rw [← hV]; simp
    have hbelV : Below w.heap.size w V := Bel.step hbV (by repeat (with_reducible first | exact Below.refl _ _ | assumption | refine Bel.alloc ?_ _ | refine Bel.step (by assumption) ?_ | refine Below.drew ?_ | refine Bel.drewN ?_ _ | refine Below.setCell ?_ (by first | exact Nat.le_refl _ | omega | (simp; done) | (simp; omega)) _))
    have ly : w.heap.size + 1 < V.heap.size := by omega
    have ny : w.heap.size + 1 ≠ w1.heap.size := by omega
    have nz : w1.heap.size ≠ w.heap.size + 1 := by omega
    have r0 : V.cell? ⟨w.heap.size + 1, 0, none⟩ = some (.int .i64 0) := ((bel hbV).1 _ _ ly0).trans sr0
    have r1 : V.cell? ⟨w.heap.size + 1, 1, none⟩ = some (.int .i64 0) := ((bel hbV).1 _ _ ly0).trans sr1
    have g0 : V.frozen? ⟨w.heap.size + 1, 0, none⟩ = false := ((bel hbV).2.1 _ _ ly0).trans sg0
    have g1 : V.frozen? ⟨w.heap.size + 1, 1, none⟩ = false := ((bel hbV).2.1 _ _ ly0).trans sg1
    clear hV hbV hb1 hc1 hf1 hz1 sr0 sr1 sg0 sg1
    generalize w1.heap.size = X at *
    go_region_held3 (fun w' => w'.cell? ⟨X, 0, none⟩ = some (.int .i64 (1000 + i)) ∧ w'.cell? ⟨X, 1, none⟩ = some (.int .i64 q)) (simp [go_sem, *])
        (first | (go_at_call 67; refine (IsFigure_I _ _ _).mono ?_; rintro e wx ⟨rfl, hbx⟩; obtain ⟨hcx, hfx, hzx⟩ := bel hbx; (try simp only [World.size_drew, World.cell?_drew, World.frozen?_drew, World.heap_drewN, World.cell?_drewN, World.frozen?_drewN] at hcx hfx hzx); (try have hlx : w.heap.size < wx.heap.size := zl hbx); (try have hmx : w.heap.size + 1 < wx.heap.size := zl hbx); (try have hnx : w.heap.size + 1 + 1 < wx.heap.size := zl hbx); (try have hpx : b < wx.heap.size := zl hbx); (try have hox : b' < wx.heap.size := by (have hq := hbx.size; (try simp at hq); omega))))
    all_goals
      go_wp2
      refine bodyPost_ret (v := .tuple #[.agg #[.int .i64 (1000 + i), .int .i64 q], .bool (okF (1000 + i) q)]) (by simp [results, Tryz.results107, go_sem, *]) rfl ⟨by rw [HO.out, HD.out.1, HD.out.2], by repeat (with_reducible first | exact Below.refl _ _ | assumption | refine Bel.alloc ?_ _ | refine Bel.step (by assumption) ?_ | refine Below.drew ?_ | refine Bel.drewN ?_ _ | refine Below.setCell ?_ (by first | exact Nat.le_refl _ | omega | (simp; done) | (simp; omega)) _)⟩
theorem sp_2 {a b : Int} (h : inB a (-31457280) 31457280 = false ∨ inB b (-31457280) 31457280 = false) : spC a b = 2 ∧ ∀ x, spV a b x = 0 := by
  have : spC a b = 2 := by rcases h with h | h <;> simp [spC, h]
  exact ⟨this, fun x => by simp [spV, this]⟩
theorem sp_4 {a b : Int} (h1 : inB a (-31457280) 31457280 = true) (h2 : inB b (-31457280) 31457280 = true) (h : bwOk a = false ∨ abOk b = false) : spC a b = 4 ∧ ∀ x, spV a b x = 0 := by
  have : spC a b = 4 := by
    unfold bwOk abOk at h
    rcases h with h | h <;> simp [spC, h1, h2, h]
  exact ⟨this, fun x => by simp [spV, this]⟩
theorem sp_0 {a b : Int} (h1 : inB a (-31457280) 31457280 = true) (h2 : inB b (-31457280) 31457280 = true) (h : bwOk a = true) (h' : abOk b = true) : spC a b = 0 ∧ ∀ x, spV a b x = x := by
  have : spC a b = 0 := by
    unfold bwOk at h
    unfold abOk at h'
    simp [spC, h1, h2, h, h']
  exact ⟨this, fun x => by simp [spV, this]⟩
/-- A fact that the walk does not look into. -/
structure BoxSp (P : Prop) : Prop where
  out : P
theorem cut_Sp {G : Prop} (P : Prop) (k : BoxSp P → G) (h : P) : G := k ⟨h⟩
set_option maxRecDepth 20000 in
set_option maxHeartbeats 2000000 in
theorem l04Span_c (a b : Int) (w : World) :
    Calls Tryz.prog 65 #[.agg #[.int .i64 a, .int .i64 b]] w fun e w' => e = .returned (.tuple #[.agg #[.int .i64 (spV a b (atD (nBw a))), .int .i64 (spV a b (atT (nBw a)))], .agg #[.int .i64 (spV a b (atD (nAb b))), .int .i64 (spV a b (atT (nAb b)))], .int .i64 (spC a b)]) ∧ Below w.heap.size w w' := by
  by_cases h1 : inB a (-31457280) 31457280 = true
  rotate_left
  · have h1' : inB a (-31457280) 31457280 = false := by simpa using h1
    have HV := Lib.hid (sp_2 (b := b) (.inl h1'))
    clear h1
    go_enter Tryz.func65, Tryz.ntmps65
    go_wp2_with (first | (go_at_call 114; refine (l04Units_c _ _).mono ?_; rintro e w' ⟨rfl, rfl⟩))
    refine bodyPost_ret (v := .tuple #[.agg #[.int .i64 0, .int .i64 0], .agg #[.int .i64 0, .int .i64 0], .int .i64 2]) (by simp [results, Tryz.results65, go_sem, *]) rfl ⟨by rw [HV.out.1, HV.out.2, HV.out.2, HV.out.2, HV.out.2], by repeat (with_reducible first | exact Below.refl _ _ | assumption | refine Bel.alloc ?_ _ | refine Bel.step (by assumption) ?_ | refine Below.drew ?_ | refine Bel.drewN ?_ _ | refine Below.setCell ?_ (by first | exact Nat.le_refl _ | omega | (simp; done) | (simp; omega)) _)⟩
  by_cases h2 : inB b (-31457280) 31457280 = true
  rotate_left
  · have h2' : inB b (-31457280) 31457280 = false := by simpa using h2
    have HV := Lib.hid (sp_2 (a := a) (.inr h2'))
    clear h2
    go_enter Tryz.func65, Tryz.ntmps65
    go_wp2_with (first | (go_at_call 114; refine (l04Units_c _ _).mono ?_; rintro e w' ⟨rfl, rfl⟩))
    refine bodyPost_ret (v := .tuple #[.agg #[.int .i64 0, .int .i64 0], .agg #[.int .i64 0, .int .i64 0], .int .i64 2]) (by simp [results, Tryz.results65, go_sem, *]) rfl ⟨by rw [HV.out.1, HV.out.2, HV.out.2, HV.out.2, HV.out.2], by repeat (with_reducible first | exact Below.refl _ _ | assumption | refine Bel.alloc ?_ _ | refine Bel.step (by assumption) ?_ | refine Below.drew ?_ | refine Bel.drewN ?_ _ | refine Below.setCell ?_ (by first | exact Nat.le_refl _ | omega | (simp; done) | (simp; omega)) _)⟩
  have HC : (bwOk a = true ∧ abOk b = true ∧ Hid (spC a b = 0 ∧ ∀ x, spV a b x = x)) ∨ (bwOk a = false ∧ Hid (spC a b = 4 ∧ ∀ x, spV a b x = 0)) ∨ (bwOk a = true ∧ abOk b = false ∧ Hid (spC a b = 4 ∧ ∀ x, spV a b x = 0)) := by
    cases k1 : bwOk a
    · exact .inr (.inl ⟨rfl, Lib.hid (sp_4 h1 h2 (.inl k1))⟩)
    · cases k2 : abOk b
      · exact .inr (.inr ⟨rfl, rfl, Lib.hid (sp_4 h1 h2 (.inr k2))⟩)
      · exact .inl ⟨rfl, rfl, Lib.hid (sp_0 h1 h2 k1 k2)⟩
  have HB := Lib.hid (show bwOk a = okF (atD (nBw a)) (atT (nBw a)) from rfl)
  have HA := Lib.hid (show abOk b = okF (atD (nAb b)) (atT (nAb b)) from rfl)
  go_enter Tryz.func65, Tryz.ntmps65
  go_wp2_with (first | (go_at_call 114; refine (l04Units_c _ _).mono ?_; rintro e w' ⟨rfl, rfl⟩))
  generalize hV : ((w.alloc (.cells #[.int .i64 a, .int .i64 b] 92)).alloc (.cells #[.int .i64 0, .int .i64 0] 25)).alloc (.cells #[.int .i64 0, .int .i64 0] 25) = V
  have p0 : V.cell? ⟨w.heap.size, 0, none⟩ = some (.int .i64 a) := by rw [← hV]; simp [go_sem]
  have p1 : V.cell? ⟨w.heap.size, 1, none⟩ = some (.int .i64 b) := by rw [← hV]; simp [go_sem]
  have r0 : V.cell? ⟨w.heap.size + 1, 0, none⟩ = some (.int .i64 0) := by rw [← hV]; simp [go_sem]
  have r1 : V.cell? ⟨w.heap.size + 1, 1, none⟩ = some (.int .i64 0) := by rw [← hV]; simp [go_sem]
  have r2 : V.cell? ⟨w.heap.size + 1 + 1, 0, none⟩ = some (.int .i64 0) := by rw [← hV]; simp [go_sem]
  have r3 : V.cell? ⟨w.heap.size + 1 + 1, 1, none⟩ = some (.int .i64 0) := by rw [← hV]; simp [go_sem]
  have g0 : V.frozen? ⟨w.heap.size + 1, 0, none⟩ = false := by rw [← hV]; simp [go_sem]
  have g1 : V.frozen? ⟨w.heap.size + 1, 1, none⟩ = false := by rw [← hV]; simp [go_sem]
  have g2 : V.frozen? ⟨w.heap.size + 1 + 1, 0, none⟩ = false := by rw [← hV]; simp [go_sem]
  have g3 : V.frozen? ⟨w.heap.size + 1 + 1, 1, none⟩ = false := by rw [← hV]; simp [go_sem]
  have lv : V.heap.size = w.heap.size + 1 + 1 + 1 := by rw [← hV]; simp
  have l0 : w.heap.size < V.heap.size := by omega
  have l1 : w.heap.size + 1 < V.heap.size := by omega
  have l2 : w.heap.size + 1 + 1 < V.heap.size := by omega
  have l01 : w.heap.size < V.heap.size + 1 := by omega
  have l02 : w.heap.size < V.heap.size + 1 + 1 := by omega
  have l11 : w.heap.size + 1 < V.heap.size + 1 := by omega
  have l12 : w.heap.size + 1 < V.heap.size + 1 + 1 := by omega
  have l21 : w.heap.size + 1 + 1 < V.heap.size + 1 := by omega
  have l22 : w.heap.size + 1 + 1 < V.heap.size + 1 + 1 := by omega
  have hbelV : Below w.heap.size w V := by rw [← hV]; repeat (with_reducible first | exact Below.refl _ _ | assumption | refine Bel.alloc ?_ _ | refine Bel.step (by assumption) ?_ | refine Below.drew ?_ | refine Bel.drewN ?_ _ | refine Below.setCell ?_ (by first | exact Nat.le_refl _ | omega | (simp; done) | (simp; omega)) _)
  have HLV := Lib.hid lv
  clear hV lv
  apply cut_Sp
  · intro key
    go_region_held3 (fun w' => w'.cell? ⟨w.heap.size, 0, none⟩ = some (.int .i64 a) ∧ w'.cell? ⟨w.heap.size, 1, none⟩ = some (.int .i64 b)) (simp [go_sem, *])
        (first | (go_at_call 115; refine (l04Below_c _ _).mono ?_; rintro e wa ⟨rfl, hba⟩; obtain ⟨hca, hfa, hza⟩ := bel hba; (try simp only [World.size_drew, World.cell?_drew, World.frozen?_drew, World.heap_drewN, World.cell?_drewN, World.frozen?_drewN] at hca hfa hza); (try have hla : w.heap.size < wa.heap.size := zl hba); (try have hma : w.heap.size + 1 < wa.heap.size := zl hba); (try have hna : w.heap.size + 1 + 1 < wa.heap.size := zl hba); (try have hpa : b < wa.heap.size := zl hba); (try have hoa : b' < wa.heap.size := by (have hq := hba.size; (try simp at hq); omega)); (try have hla1 : w.heap.size < wa.heap.size + 1 := by omega); (try have hma1 : w.heap.size + 1 < wa.heap.size + 1 := by omega); (try have hna1 : w.heap.size + 1 + 1 < wa.heap.size + 1 := by omega); (try have hla2 : w.heap.size < wa.heap.size + 1 + 1 := by omega); (try have hma2 : w.heap.size + 1 < wa.heap.size + 1 + 1 := by omega); (try have hna2 : w.heap.size + 1 + 1 < wa.heap.size + 1 + 1 := by omega); (try (have ylaV : V.heap.size < wa.heap.size := hza _ (by first | assumption | (simp; done) | (simp; omega)); have ycaV0 : wa.cell? ⟨V.heap.size, 0, none⟩ = some (.int .i64 0) := (hca _ _ (by first | assumption | (simp; done) | (simp; omega))).trans (by first | assumption | (simp [go_sem]; done) | (simp [go_sem, *]; done)); have ycaV1 : wa.cell? ⟨V.heap.size, 1, none⟩ = some (.int .i64 0) := (hca _ _ (by first | assumption | (simp; done) | (simp; omega))).trans (by first | assumption | (simp [go_sem]; done) | (simp [go_sem, *]; done)); have yfaV0 : wa.frozen? ⟨V.heap.size, 0, none⟩ = false := (hfa _ _ (by first | assumption | (simp; done) | (simp; omega))).trans (by first | assumption | (simp [go_sem]; done) | (simp [go_sem, *]; done)); have yfaV1 : wa.frozen? ⟨V.heap.size, 1, none⟩ = false := (hfa _ _ (by first | assumption | (simp; done) | (simp; omega))).trans (by first | assumption | (simp [go_sem]; done) | (simp [go_sem, *]; done)))); (try (have ylaVq1 : V.heap.size + 1 < wa.heap.size := hza _ (by first | assumption | (simp; done) | (simp; omega)); have ycaVq10 : wa.cell? ⟨V.heap.size + 1, 0, none⟩ = some (.int .i64 0) := (hca _ _ (by first | assumption | (simp; done) | (simp; omega))).trans (by first | assumption | (simp [go_sem]; done) | (simp [go_sem, *]; done)); have ycaVq11 : wa.cell? ⟨V.heap.size + 1, 1, none⟩ = some (.int .i64 0) := (hca _ _ (by first | assumption | (simp; done) | (simp; omega))).trans (by first | assumption | (simp [go_sem]; done) | (simp [go_sem, *]; done)); have yfaVq10 : wa.frozen? ⟨V.heap.size + 1, 0, none⟩ = false := (hfa _ _ (by first | assumption | (simp; done) | (simp; omega))).trans (by first | assumption | (simp [go_sem]; done) | (simp [go_sem, *]; done)); have yfaVq11 : wa.frozen? ⟨V.heap.size + 1, 1, none⟩ = false := (hfa _ _ (by first | assumption | (simp; done) | (simp; omega))).trans (by first | assumption | (simp [go_sem]; done) | (simp [go_sem, *]; done))))) | (go_at_call 116; refine (l04Above_c _ _).mono ?_; rintro e wx ⟨rfl, hbx⟩; obtain ⟨hcx, hfx, hzx⟩ := bel hbx; (try simp only [World.size_drew, World.cell?_drew, World.frozen?_drew, World.heap_drewN, World.cell?_drewN, World.frozen?_drewN] at hcx hfx hzx); (try have hlx : w.heap.size < wx.heap.size := zl hbx); (try have hmx : w.heap.size + 1 < wx.heap.size := zl hbx); (try have hnx : w.heap.size + 1 + 1 < wx.heap.size := zl hbx); (try have hpx : b < wx.heap.size := zl hbx); (try have hox : b' < wx.heap.size := by (have hq := hbx.size; (try simp at hq); omega)); (try have hlx1 : w.heap.size < wx.heap.size + 1 := by omega); (try have hmx1 : w.heap.size + 1 < wx.heap.size + 1 := by omega); (try have hnx1 : w.heap.size + 1 + 1 < wx.heap.size + 1 := by omega); (try have hlx2 : w.heap.size < wx.heap.size + 1 + 1 := by omega); (try have hmx2 : w.heap.size + 1 < wx.heap.size + 1 + 1 := by omega); (try have hnx2 : w.heap.size + 1 + 1 < wx.heap.size + 1 + 1 := by omega); (try (have ylxV : V.heap.size < wx.heap.size := hzx _ (by first | assumption | (simp; done) | (simp; omega)); have ycxV0 : wx.cell? ⟨V.heap.size, 0, none⟩ = some (.int .i64 0) := (hcx _ _ (by first | assumption | (simp; done) | (simp; omega))).trans (by first | assumption | (simp [go_sem]; done) | (simp [go_sem, *]; done)); have ycxV1 : wx.cell? ⟨V.heap.size, 1, none⟩ = some (.int .i64 0) := (hcx _ _ (by first | assumption | (simp; done) | (simp; omega))).trans (by first | assumption | (simp [go_sem]; done) | (simp [go_sem, *]; done)); have yfxV0 : wx.frozen? ⟨V.heap.size, 0, none⟩ = false := (hfx _ _ (by first | assumption | (simp; done) | (simp; omega))).trans (by first | assumption | (simp [go_sem]; done) | (simp [go_sem, *]; done)); have yfxV1 : wx.frozen? ⟨V.heap.size, 1, none⟩ = false := (hfx _ _ (by first | assumption | (simp; done) | (simp; omega))).trans (by first | assumption | (simp [go_sem]; done) | (simp [go_sem, *]; done)))); (try (have ylxVq1 : V.heap.size + 1 < wx.heap.size := hzx _ (by first | assumption | (simp; done) | (simp; omega)); have ycxVq10 : wx.cell? ⟨V.heap.size + 1, 0, none⟩ = some (.int .i64 0) := (hcx _ _ (by first | assumption | (simp; done) | (simp; omega))).trans (by first | assumption | (simp [go_sem]; done) | (simp [go_sem, *]; done)); have ycxVq11 : wx.cell? ⟨V.heap.size + 1, 1, none⟩ = some (.int .i64 0) := (hcx _ _ (by first | assumption | (simp; done) | (simp; omega))).trans (by first | assumption | (simp [go_sem]; done) | (simp [go_sem, *]; done)); have yfxVq10 : wx.frozen? ⟨V.heap.size + 1, 0, none⟩ = false := (hfx _ _ (by first | assumption | (simp; done) | (simp; omega))).trans (by first | assumption | (simp [go_sem]; done) | (simp [go_sem, *]; done)); have yfxVq11 : wx.frozen? ⟨V.heap.size + 1, 1, none⟩ = false := (hfx _ _ (by first | assumption | (simp; done) | (simp; omega))).trans (by first | assumption | (simp [go_sem]; done) | (simp [go_sem, *]; done)))); (try (have ylxwa : wa.heap.size < wx.heap.size := hzx _ (by first | assumption | (simp; done) | (simp; omega)); have ycxwa0 : wx.cell? ⟨wa.heap.size, 0, none⟩ = some (.int .i64 0) := (hcx _ _ (by first | assumption | (simp; done) | (simp; omega))).trans (by first | assumption | (simp [go_sem]; done) | (simp [go_sem, *]; done)); have ycxwa1 : wx.cell? ⟨wa.heap.size, 1, none⟩ = some (.int .i64 0) := (hcx _ _ (by first | assumption | (simp; done) | (simp; omega))).trans (by first | assumption | (simp [go_sem]; done) | (simp [go_sem, *]; done)); have yfxwa0 : wx.frozen? ⟨wa.heap.size, 0, none⟩ = false := (hfx _ _ (by first | assumption | (simp; done) | (simp; omega))).trans (by first | assumption | (simp [go_sem]; done) | (simp [go_sem, *]; done)); have yfxwa1 : wx.frozen? ⟨wa.heap.size, 1, none⟩ = false := (hfx _ _ (by first | assumption | (simp; done) | (simp; omega))).trans (by first | assumption | (simp [go_sem]; done) | (simp [go_sem, *]; done)))); (try (have ylxwaq1 : wa.heap.size + 1 < wx.heap.size := hzx _ (by first | assumption | (simp; done) | (simp; omega)); have ycxwaq10 : wx.cell? ⟨wa.heap.size + 1, 0, none⟩ = some (.int .i64 0) := (hcx _ _ (by first | assumption | (simp; done) | (simp; omega))).trans (by first | assumption | (simp [go_sem]; done) | (simp [go_sem, *]; done)); have ycxwaq11 : wx.cell? ⟨wa.heap.size + 1, 1, none⟩ = some (.int .i64 0) := (hcx _ _ (by first | assumption | (simp; done) | (simp; omega))).trans (by first | assumption | (simp [go_sem]; done) | (simp [go_sem, *]; done)); have yfxwaq10 : wx.frozen? ⟨wa.heap.size + 1, 0, none⟩ = false := (hfx _ _ (by first | assumption | (simp; done) | (simp; omega))).trans (by first | assumption | (simp [go_sem]; done) | (simp [go_sem, *]; done)); have yfxwaq11 : wx.frozen? ⟨wa.heap.size + 1, 1, none⟩ = false := (hfx _ _ (by first | assumption | (simp; done) | (simp; omega))).trans (by first | assumption | (simp [go_sem]; done) | (simp [go_sem, *]; done))))))
    · generalize hW : (wx.alloc (.cells #[.int .i64 (atD (nBw a)), .int .i64 (atT (nBw a))] 25)).alloc (.cells #[.int .i64 (atD (nAb b)), .int .i64 (atT (nAb b))] 25) = W
      have hbW : Below V.heap.size V W := by rw [← hW]; repeat (with_reducible first | exact Below.refl _ _ | assumption | refine Bel.alloc ?_ _ | refine Bel.step (by assumption) ?_ | refine Below.drew ?_ | refine Bel.drewN ?_ _ | refine Below.setCell ?_ (by first | exact Nat.le_refl _ | omega | (simp; done) | (simp; omega)) _)
      have h0 : W.cell? ⟨wx.heap.size, 0, none⟩ = some (.int .i64 (atD (nBw a))) := by rw [← hW]; simp [go_sem]
      have h1 : W.cell? ⟨wx.heap.size, 1, none⟩ = some (.int .i64 (atT (nBw a))) := by rw [← hW]; simp [go_sem]
      have h2 : W.cell? ⟨wx.heap.size + 1, 0, none⟩ = some (.int .i64 (atD (nAb b))) := by rw [← hW]; simp [go_sem]
      have h3 : W.cell? ⟨wx.heap.size + 1, 1, none⟩ = some (.int .i64 (atT (nAb b))) := by rw [← hW]; simp [go_sem]
      have hX6 : wx.heap.size + 1 < W.heap.size := by rw [← hW]; simp
      have hX5 : wx.heap.size < W.heap.size := by omega
      have zx : wa.heap.size ≤ wx.heap.size := by have := hbx.size; (try simp at this); omega
      have za : V.heap.size ≤ wa.heap.size := by have := hba.size; (try simp at this); omega
      have hZ6 : V.heap.size ≤ wx.heap.size + 1 := by omega
      have hZ5 : V.heap.size ≤ wx.heap.size := by omega
      clear hW
      generalize wx.heap.size + 1 = X6 at h2 h3 hX6 hZ6 ⊢
      generalize wx.heap.size = X5 at h0 h1 hX5 hZ5 ⊢
      revert hbW h0 h1 h2 h3 hX6 hX5 hZ6 hZ5
      revert W X6 X5
      exact key.out
    all_goals
      have zx : wa.heap.size ≤ wx.heap.size := by have := hbx.size; (try simp at this); omega
      have za : V.heap.size ≤ wa.heap.size := by have := hba.size; (try simp at this); omega
      try have ne1 : V.heap.size ≠ wa.heap.size := by omega
      try have ne2 : wa.heap.size ≠ V.heap.size := by omega
      refine key.out _ _ _ ?_ ?_ ?_ ?_ ?_ ?_ ?_ ?_ ?_
      · repeat (with_reducible first | exact Below.refl _ _ | assumption | refine Bel.alloc ?_ _ | refine Bel.step (by assumption) ?_ | refine Below.drew ?_ | refine Bel.drewN ?_ _ | refine Below.setCell ?_ (by first | exact Nat.le_refl _ | omega | (simp; done) | (simp; omega)) _)
      all_goals first | (simp [go_sem, *]; done) | (simp; omega) | omega
  · intro W X6 X5 hbW a1 a2 a3 a4 a5 a6 a7 a8
    obtain ⟨hcW, hfW, hzW⟩ := bel hbW
    have hbelW := Bel.step hbW hbelV
    have q0 := (hcW _ _ l1).trans r0
    have q1 := (hcW _ _ l1).trans r1
    have q2 := (hcW _ _ l2).trans r2
    have q3 := (hcW _ _ l2).trans r3
    have q4 := (hfW _ _ l1).trans g0
    have q5 := (hfW _ _ l1).trans g1
    have q6 := (hfW _ _ l2).trans g2
    have q7 := (hfW _ _ l2).trans g3
    have m0 := hzW _ l0
    have m1 := hzW _ l1
    have m2 := hzW _ l2
    have n1 : w.heap.size + 1 ≠ X5 := by omega
    have n2 : w.heap.size + 1 ≠ X6 := by omega
    have n3 : w.heap.size + 1 + 1 ≠ X5 := by omega
    have n4 : w.heap.size + 1 + 1 ≠ X6 := by omega
    have n5 : X5 ≠ w.heap.size + 1 := by omega
    have n6 : X6 ≠ w.heap.size + 1 := by omega
    have n7 : X5 ≠ w.heap.size + 1 + 1 := by omega
    have n8 : X6 ≠ w.heap.size + 1 + 1 := by omega
    clear hbW hcW hfW hzW r0 r1 r2 r3 g0 g1 g2 g3 p0 p1 l0 l1 l2 l01 l02 l11 l12 l21 l22 hbelV HLV
    rcases HC with ⟨k1, k2, HV⟩ | ⟨k1, HV⟩ | ⟨k1, k2, HV⟩
    · go_wp2_with fail
      go_at_call 68; refine (IsFigure_S _ _ _).mono ?_; rintro e w1 ⟨rfl, hb1⟩; obtain ⟨hc1, hf1, hz1⟩ := bel hb1; (try simp only [World.size_drew, World.cell?_drew, World.frozen?_drew, World.heap_drewN, World.cell?_drewN, World.frozen?_drewN] at hc1 hf1 hz1); (try have hl1 : w.heap.size < w1.heap.size := zl hb1); (try have hm1 : w.heap.size + 1 < w1.heap.size := zl hb1); (try have hn1 : w.heap.size + 1 + 1 < w1.heap.size := zl hb1); (try have hp1 : b < w1.heap.size := zl hb1); (try have ho1 : b' < w1.heap.size := by (have hq := hb1.size; (try simp at hq); omega))
      rw [← HB.out, k1]
      go_wp2_with fail
      go_at_call 68; refine (IsFigure_S _ _ _).mono ?_; rintro e w2 ⟨rfl, hb2⟩; obtain ⟨hc2, hf2, hz2⟩ := bel hb2; (try simp only [World.size_drew, World.cell?_drew, World.frozen?_drew, World.heap_drewN, World.cell?_drewN, World.frozen?_drewN] at hc2 hf2 hz2); (try have hl2 : w.heap.size < w2.heap.size := zl hb2); (try have hm2 : w.heap.size + 1 < w2.heap.size := zl hb2); (try have hn2 : w.heap.size + 1 + 1 < w2.heap.size := zl hb2); (try have hp2 : b < w2.heap.size := zl hb2); (try have ho2 : b' < w2.heap.size := by (have hq := hb2.size; (try simp at hq); omega))
      rw [← HA.out, k2]
      go_wp2
      go_region_held3 (fun w' => w'.cell? ⟨X5, 0, none⟩ = some (.int .i64 (atD (nBw a))) ∧ w'.cell? ⟨X5, 1, none⟩ = some (.int .i64 (atT (nBw a))) ∧ w'.cell? ⟨X6, 0, none⟩ = some (.int .i64 (atD (nAb b))) ∧ w'.cell? ⟨X6, 1, none⟩ = some (.int .i64 (atT (nAb b)))) (simp [go_sem, *]) (fail)
      all_goals go_wp2
      all_goals       refine bodyPost_ret (v := .tuple #[.agg #[.int .i64 (atD (nBw a)), .int .i64 (atT (nBw a))], .agg #[.int .i64 (atD (nAb b)), .int .i64 (atT (nAb b))], .int .i64 0]) (by simp [results, Tryz.results65, go_sem, *]) rfl ⟨by rw [HV.out.1, HV.out.2, HV.out.2, HV.out.2, HV.out.2], by repeat (with_reducible first | exact Below.refl _ _ | assumption | refine Bel.alloc ?_ _ | refine Bel.step (by assumption) ?_ | refine Below.drew ?_ | refine Bel.drewN ?_ _ | refine Below.setCell ?_ (by first | exact Nat.le_refl _ | omega | (simp; done) | (simp; omega)) _)⟩
    · go_wp2_with fail
      go_at_call 68; refine (IsFigure_S _ _ _).mono ?_; rintro e w1 ⟨rfl, hb1⟩; obtain ⟨hc1, hf1, hz1⟩ := bel hb1; (try simp only [World.size_drew, World.cell?_drew, World.frozen?_drew, World.heap_drewN, World.cell?_drewN, World.frozen?_drewN] at hc1 hf1 hz1); (try have hl1 : w.heap.size < w1.heap.size := zl hb1); (try have hm1 : w.heap.size + 1 < w1.heap.size := zl hb1); (try have hn1 : w.heap.size + 1 + 1 < w1.heap.size := zl hb1); (try have hp1 : b < w1.heap.size := zl hb1); (try have ho1 : b' < w1.heap.size := by (have hq := hb1.size; (try simp at hq); omega))
      rw [← HB.out, k1]
      go_wp2
      refine bodyPost_ret (v := .tuple #[.agg #[.int .i64 0, .int .i64 0], .agg #[.int .i64 0, .int .i64 0], .int .i64 4]) (by simp [results, Tryz.results65, go_sem, *]) rfl ⟨by rw [HV.out.1, HV.out.2, HV.out.2, HV.out.2, HV.out.2], by repeat (with_reducible first | exact Below.refl _ _ | assumption | refine Bel.alloc ?_ _ | refine Bel.step (by assumption) ?_ | refine Below.drew ?_ | refine Bel.drewN ?_ _ | refine Below.setCell ?_ (by first | exact Nat.le_refl _ | omega | (simp; done) | (simp; omega)) _)⟩
    · go_wp2_with fail
      go_at_call 68; refine (IsFigure_S _ _ _).mono ?_; rintro e w1 ⟨rfl, hb1⟩; obtain ⟨hc1, hf1, hz1⟩ := bel hb1; (try simp only [World.size_drew, World.cell?_drew, World.frozen?_drew, World.heap_drewN, World.cell?_drewN, World.frozen?_drewN] at hc1 hf1 hz1); (try have hl1 : w.heap.size < w1.heap.size := zl hb1); (try have hm1 : w.heap.size + 1 < w1.heap.size := zl hb1); (try have hn1 : w.heap.size + 1 + 1 < w1.heap.size := zl hb1); (try have hp1 : b < w1.heap.size := zl hb1); (try have ho1 : b' < w1.heap.size := by (have hq := hb1.size; (try simp at hq); omega))
      rw [← HB.out, k1]
      go_wp2_with fail
      go_at_call 68; refine (IsFigure_S _ _ _).mono ?_; rintro e w2 ⟨rfl, hb2⟩; obtain ⟨hc2, hf2, hz2⟩ := bel hb2; (try simp only [World.size_drew, World.cell?_drew, World.frozen?_drew, World.heap_drewN, World.cell?_drewN, World.frozen?_drewN] at hc2 hf2 hz2); (try have hl2 : w.heap.size < w2.heap.size := zl hb2); (try have hm2 : w.heap.size + 1 < w2.heap.size := zl hb2); (try have hn2 : w.heap.size + 1 + 1 < w2.heap.size := zl hb2); (try have hp2 : b < w2.heap.size := zl hb2); (try have ho2 : b' < w2.heap.size := by (have hq := hb2.size; (try simp at hq); omega))
      rw [← HA.out, k2]
      go_wp2
      refine bodyPost_ret (v := .tuple #[.agg #[.int .i64 0, .int .i64 0], .agg #[.int .i64 0, .int .i64 0], .int .i64 4]) (by simp [results, Tryz.results65, go_sem, *]) rfl ⟨by rw [HV.out.1, HV.out.2, HV.out.2, HV.out.2, HV.out.2], by repeat (with_reducible first | exact Below.refl _ _ | assumption | refine Bel.alloc ?_ _ | refine Bel.step (by assumption) ?_ | refine Below.drew ?_ | refine Bel.drewN ?_ _ | refine Below.setCell ?_ (by first | exact Nat.le_refl _ | omega | (simp; done) | (simp; omega)) _)⟩
set_option maxHeartbeats 1000000 in
theorem spanOf_c (a b : Int) (w : World) :
    Calls Tryz.prog 59 #[.agg #[.int .i64 a, .int .i64 b]] w fun e w' => e = .returned (.tuple #[.agg #[.int .i64 (spV a b (atD (nBw a))), .int .i64 (spV a b (atT (nBw a)))], .agg #[.int .i64 (spV a b (atD (nAb b))), .int .i64 (spV a b (atT (nAb b)))], .int .i64 (spC a b)]) ∧ Below w.heap.size w w' := by
  by_cases h1 : inB a (-31457280) 31457280 = true
  rotate_left
  · have h1' : inB a (-31457280) 31457280 = false := by simpa using h1
    have HV := Lib.hid (sp_2 (b := b) (.inl h1'))
    clear h1
    go_enter Tryz.func59, Tryz.ntmps59
    go_wp2_with (first | (go_at_call 105; refine (isUnits_c _ _).mono ?_; rintro e w' ⟨rfl, rfl⟩))
    refine bodyPost_ret (v := .tuple #[.agg #[.int .i64 0, .int .i64 0], .agg #[.int .i64 0, .int .i64 0], .int .i64 2]) (by simp [results, Tryz.results59, go_sem, *]) rfl ⟨by rw [HV.out.1, HV.out.2, HV.out.2, HV.out.2, HV.out.2], by repeat (with_reducible first | exact Below.refl _ _ | assumption | refine Bel.alloc ?_ _ | refine Bel.step (by assumption) ?_ | refine Below.drew ?_ | refine Bel.drewN ?_ _ | refine Below.setCell ?_ (by first | exact Nat.le_refl _ | omega | (simp; done) | (simp; omega)) _)⟩
  by_cases h2 : inB b (-31457280) 31457280 = true
  rotate_left
  · have h2' : inB b (-31457280) 31457280 = false := by simpa using h2
    have HV := Lib.hid (sp_2 (a := a) (.inr h2'))
    clear h2
    go_enter Tryz.func59, Tryz.ntmps59
    go_wp2_with (first | (go_at_call 105; refine (isUnits_c _ _).mono ?_; rintro e w' ⟨rfl, rfl⟩))
    refine bodyPost_ret (v := .tuple #[.agg #[.int .i64 0, .int .i64 0], .agg #[.int .i64 0, .int .i64 0], .int .i64 2]) (by simp [results, Tryz.results59, go_sem, *]) rfl ⟨by rw [HV.out.1, HV.out.2, HV.out.2, HV.out.2, HV.out.2], by repeat (with_reducible first | exact Below.refl _ _ | assumption | refine Bel.alloc ?_ _ | refine Bel.step (by assumption) ?_ | refine Below.drew ?_ | refine Bel.drewN ?_ _ | refine Below.setCell ?_ (by first | exact Nat.le_refl _ | omega | (simp; done) | (simp; omega)) _)⟩
  have HC : (bwOk a = true ∧ abOk b = true ∧ Hid (spC a b = 0 ∧ ∀ x, spV a b x = x)) ∨ (bwOk a = false ∧ Hid (spC a b = 4 ∧ ∀ x, spV a b x = 0)) ∨ (bwOk a = true ∧ abOk b = false ∧ Hid (spC a b = 4 ∧ ∀ x, spV a b x = 0)) := by
    cases k1 : bwOk a
    · exact .inr (.inl ⟨rfl, Lib.hid (sp_4 h1 h2 (.inl k1))⟩)
    · cases k2 : abOk b
      · exact .inr (.inr ⟨rfl, rfl, Lib.hid (sp_4 h1 h2 (.inr k2))⟩)
      · exact .inl ⟨rfl, rfl, Lib.hid (sp_0 h1 h2 k1 k2)⟩
  obtain ⟨i1, i2⟩ := inB_iff.1 h1
  obtain ⟨i3, i4⟩ := inB_iff.1 h2
  obtain ⟨x, HX⟩ : ∃ x, Hid (x = bwV a (atD (nBw a))) := ⟨_, Lib.hid rfl⟩
  obtain ⟨y, HY⟩ : ∃ y, Hid (y = bwV a (atT (nBw a))) := ⟨_, Lib.hid rfl⟩
  obtain ⟨k, HK⟩ : ∃ k, Hid (k = bwOk a) := ⟨_, Lib.hid rfl⟩
  obtain ⟨l, HL⟩ : ∃ l, Hid (l = abOk b) := ⟨_, Lib.hid rfl⟩
  go_enter Tryz.func59, Tryz.ntmps59
  go_wp2_with (first | (go_at_call 105; refine (isUnits_c _ _).mono ?_; rintro e w' ⟨rfl, rfl⟩))
  go_wp2_with fail
  go_at_call 106; refine (figureBelow_c _ (by assumption) (by assumption) _).mono ?_; rintro e w1 ⟨rfl, hb1⟩; obtain ⟨hc1, hf1, hz1⟩ := bel hb1; (try simp only [World.size_drew, World.cell?_drew, World.frozen?_drew, World.heap_drewN, World.cell?_drewN, World.frozen?_drewN] at hc1 hf1 hz1); (try have hl1 : w.heap.size < w1.heap.size := zl hb1); (try have hm1 : w.heap.size + 1 < w1.heap.size := zl hb1); (try have hn1 : w.heap.size + 1 + 1 < w1.heap.size := zl hb1); (try have hp1 : b < w1.heap.size := zl hb1); (try have ho1 : b' < w1.heap.size := by (have hq := hb1.size; (try simp at hq); omega))
  rw [← HX.out, ← HY.out, ← HK.out]
  have s1 : w1.cell? ⟨w.heap.size, 1, none⟩ = some (.int .i64 b) := by simp [go_sem, *]
  have r0 : w1.cell? ⟨w.heap.size + 1, 0, none⟩ = some (.int .i64 0) := by simp [go_sem, *]
  have r1 : w1.cell? ⟨w.heap.size + 1, 1, none⟩ = some (.int .i64 0) := by simp [go_sem, *]
  have r2 : w1.cell? ⟨w.heap.size + 1 + 1, 0, none⟩ = some (.int .i64 0) := by simp [go_sem, *]
  have r3 : w1.cell? ⟨w.heap.size + 1 + 1, 1, none⟩ = some (.int .i64 0) := by simp [go_sem, *]
  have g0 : w1.frozen? ⟨w.heap.size + 1, 0, none⟩ = false := by simp [go_sem, *]
  have g1 : w1.frozen? ⟨w.heap.size + 1, 1, none⟩ = false := by simp [go_sem, *]
  have g2 : w1.frozen? ⟨w.heap.size + 1 + 1, 0, none⟩ = false := by simp [go_sem, *]
  have g3 : w1.frozen? ⟨w.heap.size + 1 + 1, 1, none⟩ = false := by simp [go_sem, *]
  have hbel1 : Below w.heap.size w w1 := by repeat (with_reducible first | exact Below.refl _ _ | assumption | refine Bel.alloc ?_ _ | refine Bel.step (by assumption) ?_ | refine Below.drew ?_ | refine Bel.drewN ?_ _ | refine Below.setCell ?_ (by first | exact Nat.le_refl _ | omega | (simp; done) | (simp; omega)) _)
  have ls : w.heap.size + 1 + 1 < w1.heap.size := by have := hb1.size; simp at this; omega
  clear hb1 hc1 hf1 hz1
  go_wp2_with fail
  go_at_call 107; refine (figureAbove_c _ (by assumption) (by assumption) _).mono ?_; rintro e w2 ⟨rfl, hb2⟩; obtain ⟨hc2, hf2, hz2⟩ := bel hb2; (try simp only [World.size_drew, World.cell?_drew, World.frozen?_drew, World.heap_drewN, World.cell?_drewN, World.frozen?_drewN] at hc2 hf2 hz2); (try have hl2 : w.heap.size < w2.heap.size := zl hb2); (try have hm2 : w.heap.size + 1 < w2.heap.size := zl hb2); (try have hn2 : w.heap.size + 1 + 1 < w2.heap.size := zl hb2); (try have hp2 : b < w2.heap.size := zl hb2); (try have ho2 : b' < w2.heap.size := by (have hq := hb2.size; (try simp at hq); omega))
  rw [← HL.out]
  have t1 : w.heap.size < w2.heap.size := by have := hb2.size; simp at this; omega
  have t2 : w.heap.size + 1 < w2.heap.size := by omega
  have t3 : w.heap.size + 1 + 1 < w2.heap.size := by have := hb2.size; simp at this; omega
  have t4 : w1.heap.size < w2.heap.size := by have := hb2.size; simp at this; omega
  have x0 : w2.cell? ⟨w1.heap.size, 0, none⟩ = some (.int .i64 x) := by simp [go_sem, *]
  have x1 : w2.cell? ⟨w1.heap.size, 1, none⟩ = some (.int .i64 y) := by simp [go_sem, *]
  have n1 : w.heap.size + 1 ≠ w1.heap.size := by omega
  have n2 : w.heap.size + 1 + 1 ≠ w1.heap.size := by omega
  have n3 : w.heap.size + 1 ≠ w2.heap.size := by omega
  have n4 : w.heap.size + 1 + 1 ≠ w2.heap.size := by omega
  have n5 : w1.heap.size ≠ w.heap.size + 1 := by omega
  have n6 : w1.heap.size ≠ w.heap.size + 1 + 1 := by omega
  have n7 : w2.heap.size ≠ w.heap.size + 1 := by omega
  have n8 : w2.heap.size ≠ w.heap.size + 1 + 1 := by omega
  rcases HC with ⟨k1, k2, HV⟩ | ⟨k1, HV⟩ | ⟨k1, k2, HV⟩
  · have HU := Lib.hid (show x = atD (nBw a) ∧ y = atT (nBw a) by rw [HX.out, HY.out]; simp [bwV, k1])
    obtain rfl : k = true := HK.out.trans k1
    obtain rfl : l = true := HL.out.trans k2
    clear HK HL HX HY k1 k2
    go_wp2
    go_region_held3 (fun w' => w'.cell? ⟨w1.heap.size, 0, none⟩ = some (.int .i64 x) ∧ w'.cell? ⟨w1.heap.size, 1, none⟩ = some (.int .i64 y) ∧ w'.cell? ⟨w2.heap.size, 0, none⟩ = some (.int .i64 (atD (nAb b))) ∧ w'.cell? ⟨w2.heap.size, 1, none⟩ = some (.int .i64 (atT (nAb b)))) (simp [go_sem, *]) (fail)
    all_goals
      go_wp2
      refine bodyPost_ret (v := .tuple #[.agg #[.int .i64 x, .int .i64 y], .agg #[.int .i64 (atD (nAb b)), .int .i64 (atT (nAb b))], .int .i64 0]) (by simp [results, Tryz.results59, go_sem, *]) rfl ⟨by rw [HV.out.1, HV.out.2, HV.out.2, HV.out.2, HV.out.2, HU.out.1, HU.out.2], by repeat (with_reducible first | exact Below.refl _ _ | assumption | refine Bel.alloc ?_ _ | refine Bel.step (by assumption) ?_ | refine Below.drew ?_ | refine Bel.drewN ?_ _ | refine Below.setCell ?_ (by first | exact Nat.le_refl _ | omega | (simp; done) | (simp; omega)) _)⟩
  · obtain rfl : k = false := HK.out.trans k1
    clear HK k1
    go_wp2
    refine bodyPost_ret (v := .tuple #[.agg #[.int .i64 0, .int .i64 0], .agg #[.int .i64 0, .int .i64 0], .int .i64 4]) (by simp [results, Tryz.results59, go_sem, *]) rfl ⟨by rw [HV.out.1, HV.out.2, HV.out.2, HV.out.2, HV.out.2], by repeat (with_reducible first | exact Below.refl _ _ | assumption | refine Bel.alloc ?_ _ | refine Bel.step (by assumption) ?_ | refine Below.drew ?_ | refine Bel.drewN ?_ _ | refine Below.setCell ?_ (by first | exact Nat.le_refl _ | omega | (simp; done) | (simp; omega)) _)⟩
  · obtain rfl : k = true := HK.out.trans k1
    obtain rfl : l = false := HL.out.trans k2
    clear HK HL k1 k2
    go_wp2
    refine bodyPost_ret (v := .tuple #[.agg #[.int .i64 0, .int .i64 0], .agg #[.int .i64 0, .int .i64 0], .int .i64 4]) (by simp [results, Tryz.results59, go_sem, *]) rfl ⟨by rw [HV.out.1, HV.out.2, HV.out.2, HV.out.2, HV.out.2], by repeat (with_reducible first | exact Below.refl _ _ | assumption | refine Bel.alloc ?_ _ | refine Bel.step (by assumption) ?_ | refine Below.drew ?_ | refine Bel.drewN ?_ _ | refine Below.setCell ?_ (by first | exact Nat.le_refl _ | omega | (simp; done) | (simp; omega)) _)⟩
end Go.Proofs.YtpmcgicopogbhaaGreat
