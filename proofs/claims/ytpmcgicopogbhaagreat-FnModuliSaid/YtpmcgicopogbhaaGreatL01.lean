/- The numbers of chapter 1: each function of the program and of the reference returns the same pure function of its arguments. Conditions: arguments of at most 4 * 10^18. -/
import Derived.Test.YtpmcgicopogbhaaGreatProg
import Derived.Test.YtpmcgicopogbhaaGreatBase
import Derived.WalkKit
import Derived.WalkSpells
import Derived.WalkLawsBesides
import Derived.Lib.Hide
import Derived.Deep.QuietTactic
import Derived.BigQuiet
import Derived.Deep.Draws
namespace Go.Proofs.YtpmcgicopogbhaaGreat
open Go.RowKit
set_option linter.unusedVariables false

theorem l01In_c (n lo hi : Int) (w : World) :
    Calls Tryz.prog 55 #[.int .i64 n, .int .i64 lo, .int .i64 hi] w fun e w' => e = .returned (.bool (inB n lo hi)) ∧ w = w' := by
  go_enter Tryz.func55, Tryz.ntmps55
  go_wp2
  all_goals (go_ret; exact ⟨ret_bool (by simp [inB]; omega), rfl⟩)
theorem within_c (n lo hi : Int) (w : World) :
    Calls Tryz.prog 71 #[.int .i64 n, .int .i64 lo, .int .i64 hi] w fun e w' => e = .returned (.bool (inB n lo hi)) ∧ w = w' := by
  go_enter Tryz.func71, Tryz.ntmps71
  go_wp2
  all_goals (go_ret; exact ⟨ret_bool (by simp [inB]; omega), rfl⟩)
theorem down_c (a b : Int) (hb : b ≠ 0) (h1 : -4000000000000000000 ≤ a) (h2 : a ≤ 4000000000000000000) (h3 : -4000000000000000000 ≤ b) (h4 : b ≤ 4000000000000000000) (w : World) :
    Calls Tryz.prog 134 #[.int .i64 a, .int .i64 b] w fun e w' => e = .returned (.int .i64 (Fl a b)) ∧ w = w' := by
  obtain ⟨t1, t2⟩ := tdiv_bd a b 4000000000000000000 h1 h2
  go_enter Tryz.func134, Tryz.ntmps134
  go_wp2
  · go_ret
    exact ⟨ret_int (fdiv_eq a b hb (.inl (by assumption))).symm, rfl⟩
  · have h := ‹(a.tmod b != 0) = true ∧ _›
    go_ret
    exact ⟨ret_int (fdiv_dn a b hb (by assumption) (by simpa using h.2)).symm, rfl⟩
  · have h := ‹(a.tmod b != 0) = false ∨ _›
    go_ret
    refine ⟨ret_int (fdiv_eq a b hb (.inr ?_)).symm, rfl⟩
    rcases h with h | h
    · simp at h; exact absurd h (by assumption)
    · simpa using h
theorem up_c (a b : Int) (hb : b ≠ 0) (h1 : -4000000000000000000 ≤ a) (h2 : a ≤ 4000000000000000000) (h3 : -4000000000000000000 ≤ b) (h4 : b ≤ 4000000000000000000) (w : World) :
    Calls Tryz.prog 98 #[.int .i64 a, .int .i64 b] w fun e w' => e = .returned (.int .i64 (Cl a b)) ∧ w = w' := by
  obtain ⟨t1, t2⟩ := Fl_bd (-a) b 4000000000000000000 (by omega) (by omega)
  go_enter Tryz.func98, Tryz.ntmps98
  go_wp2_with (first | (go_at_call 134; refine (down_c _ _ (by omega) (by omega) (by omega) (by omega) (by omega) _).mono ?_; rintro e w' ⟨rfl, rfl⟩))
  go_ret
  exact ⟨rfl, rfl⟩
theorem near_c (a b : Int) (hb : b ≠ 0) (h1 : -1000000000000000000 ≤ a) (h2 : a ≤ 1000000000000000000) (h3 : -1000000000000000000 ≤ b) (h4 : b ≤ 1000000000000000000) (w : World) :
    Calls Tryz.prog 145 #[.int .i64 a, .int .i64 b] w fun e w' => e = .returned (.int .i64 (Nr a b)) ∧ w = w' := by
  by_cases h : b < 0
  · go_enter Tryz.func145, Tryz.ntmps145
    go_wp2_with (first | (go_at_call 134; refine (down_c _ _ (by omega) (by omega) (by omega) (by omega) (by omega) _).mono ?_; rintro e w' ⟨rfl, rfl⟩))
    go_ret
    exact ⟨ret_int (Nr_neg a b), rfl⟩
  · go_enter Tryz.func145, Tryz.ntmps145
    go_wp2_with (first | (go_at_call 134; refine (down_c _ _ (by omega) (by omega) (by omega) (by omega) (by omega) _).mono ?_; rintro e w' ⟨rfl, rfl⟩))
    go_ret
    exact ⟨rfl, rfl⟩
theorem l01Floor_c (a b : Int) (hb : b ≠ 0) (h1 : -4000000000000000000 ≤ a) (h2 : a ≤ 4000000000000000000) (h3 : -4000000000000000000 ≤ b) (h4 : b ≤ 4000000000000000000) (w : World) :
    Calls Tryz.prog 135 #[.int .i64 a, .int .i64 b] w fun e w' => e = .returned (.int .i64 (Fl a b)) ∧ w = w' := by
  obtain ⟨t1, t2⟩ := tdiv_bd a b 4000000000000000000 h1 h2
  by_cases h : b < 0
  · have K := Lib.hid (Fl_floor_neg a b h)
    go_enter Tryz.func135, Tryz.ntmps135
    go_wp2
    · go_ret
      exact ⟨ret_int (K.out.1 (by omega)).symm, rfl⟩
    · go_ret
      exact ⟨ret_int (K.out.2 (by omega)).symm, rfl⟩
  · have K := Lib.hid (Fl_floor_pos a b (by omega))
    go_enter Tryz.func135, Tryz.ntmps135
    go_wp2
    · go_ret
      exact ⟨ret_int (K.out.1 (by omega)).symm, rfl⟩
    · go_ret
      exact ⟨ret_int (K.out.2 (by omega)).symm, rfl⟩
theorem l01Ceil_c (a b : Int) (hb : b ≠ 0) (h1 : -4000000000000000000 ≤ a) (h2 : a ≤ 4000000000000000000) (h3 : -4000000000000000000 ≤ b) (h4 : b ≤ 4000000000000000000) (w : World) :
    Calls Tryz.prog 99 #[.int .i64 a, .int .i64 b] w fun e w' => e = .returned (.int .i64 (Cl a b)) ∧ w = w' := by
  obtain ⟨t1, t2⟩ := Fl_bd (-a) b 4000000000000000000 (by omega) (by omega)
  go_enter Tryz.func99, Tryz.ntmps99
  go_wp2_with (first | (go_at_call 135; refine (l01Floor_c _ _ (by omega) (by omega) (by omega) (by omega) (by omega) _).mono ?_; rintro e w' ⟨rfl, rfl⟩))
  go_ret
  exact ⟨rfl, rfl⟩
theorem l01Nearest_c (a b : Int) (hb : b ≠ 0) (h1 : -1000000000000000000 ≤ a) (h2 : a ≤ 1000000000000000000) (h3 : -1000000000000000000 ≤ b) (h4 : b ≤ 1000000000000000000) (w : World) :
    Calls Tryz.prog 162 #[.int .i64 a, .int .i64 b] w fun e w' => e = .returned (.int .i64 (Nr a b)) ∧ w = w' := by
  go_enter Tryz.func162, Tryz.ntmps162
  go_wp2_with (first | (go_at_call 135; refine (l01Floor_c _ _ (by omega) (by omega) (by omega) (by omega) (by omega) _).mono ?_; rintro e w' ⟨rfl, rfl⟩))
  go_ret
  exact ⟨rfl, rfl⟩
theorem l01Abs_c (a : Int) (h1 : -4000000000000000000 ≤ a) (h2 : a ≤ 4000000000000000000) (w : World) :
    Calls Tryz.prog 100 #[.int .i64 a] w fun e w' => e = .returned (.int .i64 (Ab a)) ∧ w = w' := by
  go_enter Tryz.func100, Tryz.ntmps100
  go_wp2
  all_goals (go_ret; exact ⟨ret_int (by unfold Ab; split <;> omega), rfl⟩)
theorem distance_c (a b : Int) (h1 : -2000000000000000000 ≤ a) (h2 : a ≤ 2000000000000000000) (h3 : -2000000000000000000 ≤ b) (h4 : b ≤ 2000000000000000000) (w : World) :
    Calls Tryz.prog 94 #[.int .i64 a, .int .i64 b] w fun e w' => e = .returned (.int .i64 (Ab (a - b))) ∧ w = w' := by
  go_enter Tryz.func94, Tryz.ntmps94
  go_wp2
  all_goals (go_ret; exact ⟨ret_int (by unfold Ab; split <;> omega), rfl⟩)
end Go.Proofs.YtpmcgicopogbhaaGreat
