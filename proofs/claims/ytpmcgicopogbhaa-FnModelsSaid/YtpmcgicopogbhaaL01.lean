/- The numbers of chapter 1: each function of the program and of the reference returns the same pure function of its arguments. Conditions: arguments of at most 4 * 10^18. -/
import Derived.Test.YtpmcgicopogbhaaProg
import Derived.Test.YtpmcgicopogbhaaBase
import Derived.WalkKit
import Derived.WalkSpells
import Derived.WalkLawsBesides
import Derived.Lib.Hide
import Derived.Deep.QuietTactic
import Derived.BigQuiet
import Derived.Deep.Draws
namespace Go.Proofs.Ytpmcgicopogbhaa
open Go.RowKit
set_option linter.unusedVariables false

theorem l01In_c (n lo hi : Int) (w : World) :
    Calls Try.prog 124 #[.int .i64 n, .int .i64 lo, .int .i64 hi] w fun e w' => e = .returned (.bool (inB n lo hi)) ∧ w = w' := by
  go_enter Try.func124, Try.ntmps124
  go_wp2
  all_goals (go_ret; exact ⟨ret_bool (by simp [inB]; omega), rfl⟩)
theorem within_c (n lo hi : Int) (w : World) :
    Calls Try.prog 103 #[.int .i64 n, .int .i64 lo, .int .i64 hi] w fun e w' => e = .returned (.bool (inB n lo hi)) ∧ w = w' := by
  go_enter Try.func103, Try.ntmps103
  go_wp2
  all_goals (go_ret; exact ⟨ret_bool (by simp [inB]; omega), rfl⟩)
theorem down_c (a b : Int) (hb : b ≠ 0) (h1 : -4000000000000000000 ≤ a) (h2 : a ≤ 4000000000000000000) (h3 : -4000000000000000000 ≤ b) (h4 : b ≤ 4000000000000000000) (w : World) :
    Calls Try.prog 96 #[.int .i64 a, .int .i64 b] w fun e w' => e = .returned (.int .i64 (Fl a b)) ∧ w = w' := by
  obtain ⟨t1, t2⟩ := tdiv_bd a b 4000000000000000000 h1 h2
  go_enter Try.func96, Try.ntmps96
  go_wp2
  · go_ret
    exact ⟨ret_int (fdiv_eq a b hb (.inl (by assumption))).symm, rfl⟩
  · have h := ‹(a.tmod b != 0) = true ∧ _›
    go_ret
    exact ⟨ret_int (fdiv_dn a b hb (by assumption) (by simpa using h.2)).symm, rfl⟩
  · have h := ‹(a.tmod b != 0) = false ∨ _›
    go_ret
    refine ⟨ret_int (fdiv_eq a b hb (.inr ?_)).symm, rfl⟩
    rcases h with h | h
    · simp at h; exact absurd h (by assumption)
    · simpa using h
theorem up_c (a b : Int) (hb : b ≠ 0) (h1 : -4000000000000000000 ≤ a) (h2 : a ≤ 4000000000000000000) (h3 : -4000000000000000000 ≤ b) (h4 : b ≤ 4000000000000000000) (w : World) :
    Calls Try.prog 97 #[.int .i64 a, .int .i64 b] w fun e w' => e = .returned (.int .i64 (Cl a b)) ∧ w = w' := by
  obtain ⟨t1, t2⟩ := Fl_bd (-a) b 4000000000000000000 (by omega) (by omega)
  go_enter Try.func97, Try.ntmps97
  go_wp2_with (first | (go_at_call 96; refine (down_c _ _ (by omega) (by omega) (by omega) (by omega) (by omega) _).mono ?_; rintro e w' ⟨rfl, rfl⟩))
  go_ret
  exact ⟨rfl, rfl⟩
theorem near_c (a b : Int) (hb : b ≠ 0) (h1 : -1000000000000000000 ≤ a) (h2 : a ≤ 1000000000000000000) (h3 : -1000000000000000000 ≤ b) (h4 : b ≤ 1000000000000000000) (w : World) :
    Calls Try.prog 166 #[.int .i64 a, .int .i64 b] w fun e w' => e = .returned (.int .i64 (Nr a b)) ∧ w = w' := by
  by_cases h : b < 0
  · go_enter Try.func166, Try.ntmps166
    go_wp2_with (first | (go_at_call 96; refine (down_c _ _ (by omega) (by omega) (by omega) (by omega) (by omega) _).mono ?_; rintro e w' ⟨rfl, rfl⟩))
    go_ret
    exact ⟨ret_int (Nr_neg a b), rfl⟩
  · go_enter Try.func166, Try.ntmps166
    go_wp2_with (first | (go_at_call 96; refine (down_c _ _ (by omega) (by omega) (by omega) (by omega) (by omega) _).mono ?_; rintro e w' ⟨rfl, rfl⟩))
    go_ret
    exact ⟨rfl, rfl⟩
theorem l01Floor_c (a b : Int) (hb : b ≠ 0) (h1 : -4000000000000000000 ≤ a) (h2 : a ≤ 4000000000000000000) (h3 : -4000000000000000000 ≤ b) (h4 : b ≤ 4000000000000000000) (w : World) :
    Calls Try.prog 87 #[.int .i64 a, .int .i64 b] w fun e w' => e = .returned (.int .i64 (Fl a b)) ∧ w = w' := by
  obtain ⟨t1, t2⟩ := tdiv_bd a b 4000000000000000000 h1 h2
  by_cases h : b < 0
  · have K := Lib.hid (Fl_floor_neg a b h)
    go_enter Try.func87, Try.ntmps87
    go_wp2
    · go_ret
      exact ⟨ret_int (K.out.1 (by omega)).symm, rfl⟩
    · go_ret
      exact ⟨ret_int (K.out.2 (by omega)).symm, rfl⟩
  · have K := Lib.hid (Fl_floor_pos a b (by omega))
    go_enter Try.func87, Try.ntmps87
    go_wp2
    · go_ret
      exact ⟨ret_int (K.out.1 (by omega)).symm, rfl⟩
    · go_ret
      exact ⟨ret_int (K.out.2 (by omega)).symm, rfl⟩
theorem l01Ceil_c (a b : Int) (hb : b ≠ 0) (h1 : -4000000000000000000 ≤ a) (h2 : a ≤ 4000000000000000000) (h3 : -4000000000000000000 ≤ b) (h4 : b ≤ 4000000000000000000) (w : World) :
    Calls Try.prog 98 #[.int .i64 a, .int .i64 b] w fun e w' => e = .returned (.int .i64 (Cl a b)) ∧ w = w' := by
  obtain ⟨t1, t2⟩ := Fl_bd (-a) b 4000000000000000000 (by omega) (by omega)
  go_enter Try.func98, Try.ntmps98
  go_wp2_with (first | (go_at_call 87; refine (l01Floor_c _ _ (by omega) (by omega) (by omega) (by omega) (by omega) _).mono ?_; rintro e w' ⟨rfl, rfl⟩))
  go_ret
  exact ⟨rfl, rfl⟩
theorem l01Nearest_c (a b : Int) (hb : b ≠ 0) (h1 : -1000000000000000000 ≤ a) (h2 : a ≤ 1000000000000000000) (h3 : -1000000000000000000 ≤ b) (h4 : b ≤ 1000000000000000000) (w : World) :
    Calls Try.prog 167 #[.int .i64 a, .int .i64 b] w fun e w' => e = .returned (.int .i64 (Nr a b)) ∧ w = w' := by
  go_enter Try.func167, Try.ntmps167
  go_wp2_with (first | (go_at_call 87; refine (l01Floor_c _ _ (by omega) (by omega) (by omega) (by omega) (by omega) _).mono ?_; rintro e w' ⟨rfl, rfl⟩))
  go_ret
  exact ⟨rfl, rfl⟩
theorem l01Abs_c (a : Int) (h1 : -4000000000000000000 ≤ a) (h2 : a ≤ 4000000000000000000) (w : World) :
    Calls Try.prog 160 #[.int .i64 a] w fun e w' => e = .returned (.int .i64 (Ab a)) ∧ w = w' := by
  go_enter Try.func160, Try.ntmps160
  go_wp2
  all_goals (go_ret; exact ⟨ret_int (by unfold Ab; split <;> omega), rfl⟩)
theorem distance_c (a b : Int) (h1 : -2000000000000000000 ≤ a) (h2 : a ≤ 2000000000000000000) (h3 : -2000000000000000000 ≤ b) (h4 : b ≤ 2000000000000000000) (w : World) :
    Calls Try.prog 192 #[.int .i64 a, .int .i64 b] w fun e w' => e = .returned (.int .i64 (Ab (a - b))) ∧ w = w' := by
  go_enter Try.func192, Try.ntmps192
  go_wp2
  all_goals (go_ret; exact ⟨ret_int (by unfold Ab; split <;> omega), rfl⟩)
theorem divisorOf_c (a b : Int) (h1 : -4000000000000000000 ≤ a) (h2 : a ≤ 4000000000000000000) (h3 : -4000000000000000000 ≤ b) (h4 : b ≤ 4000000000000000000) (w : World) :
    Calls Try.prog 99 #[.int .i64 a, .int .i64 b] w fun e w' => e = .returned (.int .i64 (Gc a b)) ∧ ∃ n, w' = w.drewN n := by
  go_enter Try.func99, Try.ntmps99
  go_wp2
  go_loopw [0, 1] (fun x y wr => ∃ p q : Int, x = .int .i64 p ∧ y = .int .i64 q ∧ Gc p q = Gc a b ∧ -4000000000000000000 ≤ p ∧ p ≤ 4000000000000000000 ∧ -4000000000000000000 ≤ q ∧ q ≤ 4000000000000000000 ∧ ∃ n, wr = w.drewN n) (fun _ y _ => (intOf y).natAbs)
  case atStart => exact ⟨a, b, rfl, rfl, rfl, h1, h2, h3, h4, 0, rfl⟩
  case round =>
    obtain ⟨p, q, rfl, rfl, hg, p1, p2, q1, q2, n, rfl⟩ := hrel
    clear h1 h2 h3 h4
    have HG := Lib.hid hg
    clear hg
    by_cases hq : q = 0
    · subst hq
      go_wp2
      all_goals (go_ret; exact ⟨ret_int (by rw [← HG.out, Gc_zero]; unfold Ab; split <;> omega), n, rfl⟩)
    · obtain ⟨f0, f1, f2, f3⟩ := tmod_facts p q hq
      clear f0
      go_wp2
      go_quiet (fail)
      go_wp2
      go_roundw
      case rel => exact ⟨q, p.tmod q, rfl, rfl, by rw [Gc_step]; exact HG.out, q1, q2, by omega, by omega, _, World.drewN_drewN _ _ _⟩
      case measure => exact f3
theorem l01Gcd_c (a b : Int) (h1 : -4000000000000000000 ≤ a) (h2 : a ≤ 4000000000000000000) (h3 : -4000000000000000000 ≤ b) (h4 : b ≤ 4000000000000000000) (w : World) :
    Calls Try.prog 100 #[.int .i64 a, .int .i64 b] w fun e w' => e = .returned (.int .i64 (Gc a b)) ∧ ∃ n, w' = w.drewN n := by
  have a0 := Ab_nat a
  have b0 := Ab_nat b
  have a1 : 0 ≤ Ab a := by omega
  have a2 : Ab a ≤ 4000000000000000000 := by omega
  have b1 : 0 ≤ Ab b := by omega
  have b2 : Ab b ≤ 4000000000000000000 := by omega
  clear a0 b0
  go_enter Try.func100, Try.ntmps100
  go_wp2_with (first | (go_at_call 160; refine (l01Abs_c _ (by omega) (by omega) _).mono ?_; rintro e w' ⟨rfl, rfl⟩))
  go_loopw [0, 1] (fun x y wr => ∃ p q : Int, x = .int .i64 p ∧ y = .int .i64 q ∧ Gc p q = Gc a b ∧ 0 ≤ p ∧ p ≤ 4000000000000000000 ∧ 0 ≤ q ∧ q ≤ 4000000000000000000 ∧ ∃ n, wr = w.drewN n) (fun _ y _ => (intOf y).natAbs)
  case atStart => exact ⟨Ab a, Ab b, rfl, rfl, Gc_Ab a b, a1, a2, b1, b2, 0, rfl⟩
  case round =>
    obtain ⟨p, q, rfl, rfl, hg, p1, p2, q1, q2, n, rfl⟩ := hrel
    clear h1 h2 h3 h4 a1 a2 b1 b2
    have HG := Lib.hid hg
    clear hg
    by_cases hq : q = 0
    · subst hq
      go_wp2
      all_goals (go_ret; exact ⟨ret_int (by rw [← HG.out, Gc_zero]; unfold Ab; split <;> omega), n, rfl⟩)
    · obtain ⟨f0, f1, f2, f3⟩ := tmod_facts p q hq
      have f4 : p.tmod q = p % q := Int.tmod_eq_emod_of_nonneg p1
      have HF := Lib.hid f4
      rw [f4] at f1 f3
      clear f0 f2 f4
      go_wp2
      go_quiet (fail)
      go_wp2
      go_roundw
      case rel => exact ⟨q, p % q, rfl, rfl, by rw [← HF.out, Gc_step]; exact HG.out, q1, q2, by omega, by omega, _, World.drewN_drewN _ _ _⟩
      case measure => simp [intOf]; omega
end Go.Proofs.Ytpmcgicopogbhaa
