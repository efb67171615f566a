/- Chapter 28: models of wear, places that are seen, fits. Conditions: as stated at each contract. -/
import Derived.Test.YtlphcpmneioogaaProg
import Derived.Test.YtlphcpmneioogaaBase
import Derived.Test.YtlphcpmneioogaaL01
import Derived.Test.YtlphcpmneioogaaCp
import Derived.WalkKit
import Derived.WalkSpells
import Derived.WalkLawsBesides
import Derived.Lib.Hide
import Derived.Deep.QuietTactic
import Derived.BigQuiet
import Derived.Deep.Draws
import Derived.Deep.RegionHeld3
namespace Go.Proofs.Ytlphcpmneioogaa
open Go.RowKit
set_option linter.unusedVariables false

def isModel (s z : Int) : Bool := inB s (-200) 200 && inB z (-100000) 100000
theorem isModel_iff {s z : Int} (h : isModel s z = true) : -200 ≤ s ∧ s ≤ 200 ∧ -100000 ≤ z ∧ z ≤ 100000 := by
  simp only [isModel, Bool.and_eq_true, inB_iff] at h; omega
/-- Where a true place is seen. -/
def Sn (s z t : Int) : Int := t + s + Nr (t * z) 1000000
def seenAtV (s z t : Int) : Int := if isModel s z && inB t 0 100000 then Sn s z t else 0
def seenAtE (s z t : Int) : Int := if isModel s z then (if inB t 0 100000 then 0 else 2) else 1
theorem isModel_S (s t : Int) (w : World) :
    Calls Try.prog 9 #[.agg #[.int .i64 s, .int .i64 t]] w fun e w' => e = .returned (.bool (isModel s t)) ∧ Below w.heap.size w w' := by
  go_enter Try.func9, Try.ntmps9
  go_wp2_with (first | (go_at_call 14; refine (l01In_c _ _ _ _).mono ?_; rintro e w' ⟨rfl, rfl⟩))
  all_goals (go_ret; exact ⟨ret_bool (by simp [isModel, *]), Bel.alloc (Below.refl _ _) _⟩)
theorem isModel_I (s t : Int) (w : World) :
    Calls Try.prog 16 #[.agg #[.int .i64 s, .int .i64 t]] w fun e w' => e = .returned (.bool (isModel s t)) ∧ Below w.heap.size w w' := by
  go_enter Try.func16, Try.ntmps16
  go_wp2_with (first | (go_at_call 21; refine (within_c _ _ _ _).mono ?_; rintro e w' ⟨rfl, rfl⟩))
  all_goals (go_ret; exact ⟨ret_bool (by simp [isModel, *]), Bel.alloc (Below.refl _ _) _⟩)
theorem seen_l01Nearest_c (s z t : Int) (h1 : -1000000 ≤ s) (h2 : s ≤ 1000000) (h3 : -1000000 ≤ z) (h4 : z ≤ 1000000) (h5 : -1000000 ≤ t) (h6 : t ≤ 1000000) (w : World) :
    Calls Try.prog 12 #[.agg #[.int .i64 s, .int .i64 z], .int .i64 t] w fun e w' => e = .returned (.int .i64 (Sn s z t)) ∧ Below w.heap.size w w' := by
  obtain ⟨m1, m2⟩ := mul_bd t z 1000000 1000000 h5 h6 h3 h4
  obtain ⟨n1, n2⟩ := Nr_bd (t * z) 1000000 3000000000000 (by omega) (by omega)
  have e1 : IntKind.i64.wrap (t * z) = t * z := wr64 (by omega) (by omega)
  have e2 : IntKind.i64.wrap (t + s) = t + s := wr64 (by omega) (by omega)
  have e3 : IntKind.i64.wrap (t + s + Nr (t * z) 1000000) = t + s + Nr (t * z) 1000000 := wr64 (by omega) (by omega)
  go_enter Try.func12, Try.ntmps12
  go_wp2
  go_quiet ((first | (go_at_call 27; with_reducible exact quiet_left (l01Nearest_c _ _ (by omega) (by omega) (by omega) (by omega) (by omega) _))))
  go_wp2
  go_ret
  exact ⟨rfl, by repeat (with_reducible first | exact Below.refl _ _ | assumption | refine Bel.alloc ?_ _ | refine Bel.step (by assumption) ?_ | refine Below.drew ?_ | refine Bel.drewN ?_ _ | refine Below.setCell ?_ (by first | exact Nat.le_refl _ | omega | (simp; done) | (simp; omega)) _)⟩
theorem seen_near_c (s z t : Int) (h1 : -1000000 ≤ s) (h2 : s ≤ 1000000) (h3 : -1000000 ≤ z) (h4 : z ≤ 1000000) (h5 : -1000000 ≤ t) (h6 : t ≤ 1000000) (w : World) :
    Calls Try.prog 19 #[.agg #[.int .i64 s, .int .i64 z], .int .i64 t] w fun e w' => e = .returned (.int .i64 (Sn s z t)) ∧ Below w.heap.size w w' := by
  obtain ⟨m1, m2⟩ := mul_bd t z 1000000 1000000 h5 h6 h3 h4
  obtain ⟨n1, n2⟩ := Nr_bd (t * z) 1000000 3000000000000 (by omega) (by omega)
  have e1 : IntKind.i64.wrap (t * z) = t * z := wr64 (by omega) (by omega)
  have e2 : IntKind.i64.wrap (t + s) = t + s := wr64 (by omega) (by omega)
  have e3 : IntKind.i64.wrap (t + s + Nr (t * z) 1000000) = t + s + Nr (t * z) 1000000 := wr64 (by omega) (by omega)
  go_enter Try.func19, Try.ntmps19
  go_wp2
  go_quiet ((first | (go_at_call 35; with_reducible exact quiet_left (near_c _ _ (by omega) (by omega) (by omega) (by omega) (by omega) _))))
  go_wp2
  go_ret
  exact ⟨rfl, by repeat (with_reducible first | exact Below.refl _ _ | assumption | refine Bel.alloc ?_ _ | refine Bel.step (by assumption) ?_ | refine Below.drew ?_ | refine Bel.drewN ?_ _ | refine Below.setCell ?_ (by first | exact Nat.le_refl _ | omega | (simp; done) | (simp; omega)) _)⟩
/-- The error of a model for a test. -/
def Er (s z t n : Int) : Int := Ab (n - Sn s z t)
theorem Sn_bd (s z t : Int) (h1 : -1000000 ≤ s) (h2 : s ≤ 1000000) (h3 : -1000000 ≤ z) (h4 : z ≤ 1000000) (h5 : -1000000 ≤ t) (h6 : t ≤ 1000000) : -3000002000000 ≤ Sn s z t ∧ Sn s z t ≤ 3000002000000 := by
  obtain ⟨m1, m2⟩ := mul_bd t z 1000000 1000000 h5 h6 h3 h4
  obtain ⟨n1, n2⟩ := Nr_bd (t * z) 1000000 3000000000000 (by omega) (by omega)
  unfold Sn; omega
theorem Ab_nonneg (a : Int) : 0 ≤ Ab a := by unfold Ab; split <;> omega
theorem Ab_bd (a B : Int) (h1 : -B ≤ a) (h2 : a ≤ B) : 0 ≤ Ab a ∧ Ab a ≤ B := by unfold Ab; split <;> omega
theorem Er_bd (s z t n : Int) (h1 : -1000000 ≤ s) (h2 : s ≤ 1000000) (h3 : -1000000 ≤ z) (h4 : z ≤ 1000000) (h5 : -1000000 ≤ t) (h6 : t ≤ 1000000) (h7 : -1000000 ≤ n) (h8 : n ≤ 1000000) : 0 ≤ Er s z t n ∧ Er s z t n ≤ 4000000000000 := by
  obtain ⟨m1, m2⟩ := Sn_bd s z t h1 h2 h3 h4 h5 h6
  obtain ⟨n1, n2⟩ := Ab_bd (n - Sn s z t) 4000000000000 (by omega) (by omega)
  exact ⟨n1, n2⟩
/-- The first place below k at which f is least. -/
def bst (f : Int → Int) : Nat → Nat
  | 0 => 0
  | k + 1 => if f k < f (bst f k) then k else bst f k
theorem bst_lt (f : Int → Int) (k : Nat) : bst f k ≤ k := by
  induction k with
  | zero => exact Nat.le_refl _
  | succ k ih => unfold bst; split <;> omega
theorem bst_yes (f : Int → Int) (k : Nat) (h : f k < f (bst f k)) : bst f (k + 1) = k := by rw [bst, if_pos h]
theorem bst_no (f : Int → Int) (k : Nat) (h : f (bst f k) ≤ f k) : bst f (k + 1) = bst f k := by rw [bst, if_neg (by omega)]
def corrV (s z n : Int) : Int := if isModel s z && inB n 0 100000 then (bst (fun t => Er s z t n) 100001 : Nat) else 0
def corrE (s z n : Int) : Int := if isModel s z then (if inB n 0 100000 then 0 else 2) else 1
theorem Sn_step (s z t u : Int) (h3 : -100000 ≤ z) (h : t ≤ u) : Sn s z t ≤ Sn s z u ∧ (t + 2 ≤ u → Sn s z t < Sn s z u) := by
  have e : (u - t) * -100000 ≤ (u - t) * z := Int.mul_le_mul_of_nonneg_left h3 (by omega)
  rw [Int.sub_mul u t z] at e
  unfold Sn Nr
  rw [Fl_pos _ _ (by omega), Fl_pos _ _ (by omega)]
  constructor
  · omega
  · intro h2; omega
theorem bst_char (f : Int → Int) (N : Nat) (hN : 0 < N) : bst f N < N ∧ (∀ u : Nat, u < N → f (bst f N) ≤ f u) ∧ ∀ u : Nat, u < bst f N → f (bst f N) < f u := by
  induction N with
  | zero => omega
  | succ k ih =>
    by_cases hk : k = 0
    · subst hk
      have e : bst f 1 = 0 := by simp [bst]
      show bst f 1 < 1 ∧ (∀ u : Nat, u < 1 → f (bst f 1) ≤ f u) ∧ ∀ u : Nat, u < bst f 1 → f (bst f 1) < f u
      rw [e]
      refine ⟨by omega, fun u hu => ?_, fun u hu => by omega⟩
      have : u = 0 := by omega
      subst this; exact Int.le_refl _
    · obtain ⟨a, b, c⟩ := ih (by omega)
      by_cases h : f k < f (bst f k)
      · rw [bst_yes f k h]
        refine ⟨by omega, fun u hu => ?_, fun u hu => ?_⟩
        · rcases Nat.lt_or_eq_of_le (Nat.le_of_lt_succ hu) with h1 | h1
          · have := b u h1; omega
          · subst h1; exact Int.le_refl _
        · have := b u hu; omega
      · rw [bst_no f k (by omega)]
        refine ⟨by omega, fun u hu => ?_, fun u hu => c u hu⟩
        rcases Nat.lt_or_eq_of_le (Nat.le_of_lt_succ hu) with h1 | h1
        · exact b u h1
        · subst h1; omega
theorem bst_uniq (f : Int → Int) (N b : Nat) (h1 : b < N) (h2 : ∀ u : Nat, u < N → f b ≤ f u) (h3 : ∀ u : Nat, u < b → f b < f u) : bst f N = b := by
  obtain ⟨a, c, d⟩ := bst_char f N (by omega)
  rcases Nat.lt_trichotomy (bst f N) b with h | h | h
  · have := h3 _ h; have := c b h1; omega
  · exact h
  · have := d _ h; have := h2 _ a; omega
/-- The search of the reference ends where the first best place is. -/
theorem corr_bst (s z n : Int) (h3 : -100000 ≤ z) (L b : Nat) (hL : L ≤ 100000) (hlow : ∀ t : Nat, t < L → Sn s z t < n) (hhigh : L = 100000 ∨ n ≤ Sn s z L)
    (hb1 : L - 4 ≤ b) (hb2 : b ≤ L) (hmin : ∀ u : Nat, L - 4 ≤ u → u ≤ L → Er s z b n ≤ Er s z u n) (hstr : ∀ u : Nat, L - 4 ≤ u → u < b → Er s z b n < Er s z u n) : bst (fun t => Er s z t n) 100001 = b := by
  have key : ∀ u : Nat, u < L - 4 → Er s z b n < Er s z u n := by
    intro u hu
    have h1 := (Sn_step s z u (L - 1 : Nat) h3 (by omega)).2 (by omega)
    have h2 := hlow (L - 1) (by omega)
    have h4 := hmin (L - 1) (by omega) (by omega)
    have : Er s z (L - 1 : Nat) n < Er s z u n := by unfold Er Ab; split <;> split <;> omega
    omega
  refine bst_uniq _ _ _ (by omega) (fun u hu => ?_) (fun u hu => ?_)
  · show Er s z b n ≤ Er s z u n
    by_cases h5 : u < L - 4
    · exact Int.le_of_lt (key u h5)
    · by_cases h6 : u ≤ L
      · exact hmin u (by omega) h6
      · rcases hhigh with h7 | h7
        · omega
        · have h1 := (Sn_step s z L u h3 (by omega)).1
          have h4 := hmin L (by omega) (by omega)
          have : Er s z L n ≤ Er s z u n := by unfold Er Ab; split <;> split <;> omega
          omega
  · show Er s z b n < Er s z u n
    by_cases h5 : u < L - 4
    · exact key u h5
    · exact hstr u (by omega) hu
/-- What the reference's second loop knows: the first best place from a on, below t. -/
def Win (f : Int → Int) (a t : Nat) (b : Int) (l : Int) : Prop :=
  (t = a ∧ b = 0 ∧ l = -1) ∨ (a < t ∧ ∃ q : Nat, b = q ∧ l = f q ∧ a ≤ q ∧ q < t ∧ (∀ u : Nat, a ≤ u → u < t → f q ≤ f u) ∧ ∀ u : Nat, a ≤ u → u < q → f q < f u)
theorem Win.take {f : Int → Int} {a t : Nat} {b l : Int} (h : Win f a t b l) (hat : a ≤ t) (hl : l < 0 ∨ f t < l) (hf : ∀ u : Nat, 0 ≤ f u) : Win f a (t + 1) t (f t) := by
  refine .inr ⟨by omega, t, rfl, rfl, hat, by omega, fun u h1 h2 => ?_, fun u h1 h2 => ?_⟩
  · rcases h with ⟨rfl, _, _⟩ | ⟨h3, q, _, hq, h4, h5, h6, h7⟩
    · have : u = t := by omega
      subst this; exact Int.le_refl _
    · by_cases e : u = t
      · subst e; exact Int.le_refl _
      · have := h6 u h1 (by omega)
        rcases hl with hl | hl
        · have := hf q; omega
        · omega
  · rcases h with ⟨rfl, _, _⟩ | ⟨h3, q, _, hq, h4, h5, h6, h7⟩
    · omega
    · have := h6 u h1 (by omega)
      rcases hl with hl | hl
      · have := hf q; omega
      · omega
theorem Win.leave {f : Int → Int} {a t : Nat} {b l : Int} (h : Win f a t b l) (hl : ¬ l < 0) (hf : l ≤ f t) : Win f a (t + 1) b l := by
  rcases h with ⟨_, _, h⟩ | ⟨h3, q, hb, hq, h4, h5, h6, h7⟩
  · omega
  · refine .inr ⟨by omega, q, hb, hq, h4, by omega, fun u h1 h2 => ?_, h7⟩
    by_cases e : u = t
    · subst e; omega
    · exact h6 u h1 (by omega)
end Go.Proofs.Ytlphcpmneioogaa
