/- The numbers of chapter 1: each function of the program and of the reference returns the same pure function of its arguments. Conditions: arguments of at most 4 * 10^18. -/
import Derived.Test.YtlphcpmneioogaaProg
import Derived.Test.YtlphcpmneioogaaBase
import Derived.WalkKit
import Derived.WalkSpells
import Derived.WalkLawsBesides
import Derived.Lib.Hide
import Derived.Deep.QuietTactic
import Derived.BigQuiet
import Derived.Deep.Draws
namespace Go.Proofs.Ytlphcpmneioogaa
open Go.RowKit
set_option linter.unusedVariables false

theorem l01In_c (n lo hi : Int) (w : World) :
    Calls Try.prog 14 #[.int .i64 n, .int .i64 lo, .int .i64 hi] w fun e w' => e = .returned (.bool (inB n lo hi)) ∧ w = w' := by
  go_enter Try.func14, Try.ntmps14
  go_wp2
  all_goals (go_ret; exact ⟨ret_bool (by simp [inB]; omega), rfl⟩)
theorem within_c (n lo hi : Int) (w : World) :
    Calls Try.prog 21 #[.int .i64 n, .int .i64 lo, .int .i64 hi] w fun e w' => e = .returned (.bool (inB n lo hi)) ∧ w = w' := by
  go_enter Try.func21, Try.ntmps21
  go_wp2
  all_goals (go_ret; exact ⟨ret_bool (by simp [inB]; omega), rfl⟩)
theorem down_c (a b : Int) (hb : b ≠ 0) (h1 : -4000000000000000000 ≤ a) (h2 : a ≤ 4000000000000000000) (h3 : -4000000000000000000 ≤ b) (h4 : b ≤ 4000000000000000000) (w : World) :
    Calls Try.prog 20 #[.int .i64 a, .int .i64 b] w fun e w' => e = .returned (.int .i64 (Fl a b)) ∧ w = w' := by
  obtain ⟨t1, t2⟩ := tdiv_bd a b 4000000000000000000 h1 h2
  go_enter Try.func20, Try.ntmps20
  go_wp2
  · go_ret
    exact ⟨ret_int (fdiv_eq a b hb (.inl (by assumption))).symm, rfl⟩
  · have h := ‹(a.tmod b != 0) = true ∧ _›
    go_ret
    exact ⟨ret_int (fdiv_dn a b hb (by assumption) (by simpa using h.2)).symm, rfl⟩
  · have h := ‹(a.tmod b != 0) = false ∨ _›
    go_ret
    refine ⟨ret_int (fdiv_eq a b hb (.inr ?_)).symm, rfl⟩
    rcases h with h | h
    · simp at h; exact absurd h (by assumption)
    · simpa using h
theorem up_c (a b : Int) (hb : b ≠ 0) (h1 : -4000000000000000000 ≤ a) (h2 : a ≤ 4000000000000000000) (h3 : -4000000000000000000 ≤ b) (h4 : b ≤ 4000000000000000000) (w : World) :
    Calls Try.prog 34 #[.int .i64 a, .int .i64 b] w fun e w' => e = .returned (.int .i64 (Cl a b)) ∧ w = w' := by
  obtain ⟨t1, t2⟩ := Fl_bd (-a) b 4000000000000000000 (by omega) (by omega)
  go_enter Try.func34, Try.ntmps34
  go_wp2_with (first | (go_at_call 20; refine (down_c _ _ (by omega) (by omega) (by omega) (by omega) (by omega) _).mono ?_; rintro e w' ⟨rfl, rfl⟩))
  go_ret
  exact ⟨rfl, rfl⟩
theorem near_c (a b : Int) (hb : b ≠ 0) (h1 : -1000000000000000000 ≤ a) (h2 : a ≤ 1000000000000000000) (h3 : -1000000000000000000 ≤ b) (h4 : b ≤ 1000000000000000000) (w : World) :
    Calls Try.prog 35 #[.int .i64 a, .int .i64 b] w fun e w' => e = .returned (.int .i64 (Nr a b)) ∧ w = w' := by
  by_cases h : b < 0
  · go_enter Try.func35, Try.ntmps35
    go_wp2_with (first | (go_at_call 20; refine (down_c _ _ (by omega) (by omega) (by omega) (by omega) (by omega) _).mono ?_; rintro e w' ⟨rfl, rfl⟩))
    go_ret
    exact ⟨ret_int (Nr_neg a b), rfl⟩
  · go_enter Try.func35, Try.ntmps35
    go_wp2_with (first | (go_at_call 20; refine (down_c _ _ (by omega) (by omega) (by omega) (by omega) (by omega) _).mono ?_; rintro e w' ⟨rfl, rfl⟩))
    go_ret
    exact ⟨rfl, rfl⟩
theorem l01Floor_c (a b : Int) (hb : b ≠ 0) (h1 : -4000000000000000000 ≤ a) (h2 : a ≤ 4000000000000000000) (h3 : -4000000000000000000 ≤ b) (h4 : b ≤ 4000000000000000000) (w : World) :
    Calls Try.prog 13 #[.int .i64 a, .int .i64 b] w fun e w' => e = .returned (.int .i64 (Fl a b)) ∧ w = w' := by
  obtain ⟨t1, t2⟩ := tdiv_bd a b 4000000000000000000 h1 h2
  by_cases h : b < 0
  · have K := Lib.hid (Fl_floor_neg a b h)
    go_enter Try.func13, Try.ntmps13
    go_wp2
    · go_ret
      exact ⟨ret_int (K.out.1 (by omega)).symm, rfl⟩
    · go_ret
      exact ⟨ret_int (K.out.2 (by omega)).symm, rfl⟩
  · have K := Lib.hid (Fl_floor_pos a b (by omega))
    go_enter Try.func13, Try.ntmps13
    go_wp2
    · go_ret
      exact ⟨ret_int (K.out.1 (by omega)).symm, rfl⟩
    · go_ret
      exact ⟨ret_int (K.out.2 (by omega)).symm, rfl⟩
theorem l01Ceil_c (a b : Int) (hb : b ≠ 0) (h1 : -4000000000000000000 ≤ a) (h2 : a ≤ 4000000000000000000) (h3 : -4000000000000000000 ≤ b) (h4 : b ≤ 4000000000000000000) (w : World) :
    Calls Try.prog 39 #[.int .i64 a, .int .i64 b] w fun e w' => e = .returned (.int .i64 (Cl a b)) ∧ w = w' := by
  obtain ⟨t1, t2⟩ := Fl_bd (-a) b 4000000000000000000 (by omega) (by omega)
  go_enter Try.func39, Try.ntmps39
  go_wp2_with (first | (go_at_call 13; refine (l01Floor_c _ _ (by omega) (by omega) (by omega) (by omega) (by omega) _).mono ?_; rintro e w' ⟨rfl, rfl⟩))
  go_ret
  exact ⟨rfl, rfl⟩
theorem l01Nearest_c (a b : Int) (hb : b ≠ 0) (h1 : -1000000000000000000 ≤ a) (h2 : a ≤ 1000000000000000000) (h3 : -1000000000000000000 ≤ b) (h4 : b ≤ 1000000000000000000) (w : World) :
    Calls Try.prog 27 #[.int .i64 a, .int .i64 b] w fun e w' => e = .returned (.int .i64 (Nr a b)) ∧ w = w' := by
  go_enter Try.func27, Try.ntmps27
  go_wp2_with (first | (go_at_call 13; refine (l01Floor_c _ _ (by omega) (by omega) (by omega) (by omega) (by omega) _).mono ?_; rintro e w' ⟨rfl, rfl⟩))
  go_ret
  exact ⟨rfl, rfl⟩
theorem l01Abs_c (a : Int) (h1 : -4000000000000000000 ≤ a) (h2 : a ≤ 4000000000000000000) (w : World) :
    Calls Try.prog 30 #[.int .i64 a] w fun e w' => e = .returned (.int .i64 (Ab a)) ∧ w = w' := by
  go_enter Try.func30, Try.ntmps30
  go_wp2
  all_goals (go_ret; exact ⟨ret_int (by unfold Ab; split <;> omega), rfl⟩)
theorem distance_c (a b : Int) (h1 : -2000000000000000000 ≤ a) (h2 : a ≤ 2000000000000000000) (h3 : -2000000000000000000 ≤ b) (h4 : b ≤ 2000000000000000000) (w : World) :
    Calls Try.prog 37 #[.int .i64 a, .int .i64 b] w fun e w' => e = .returned (.int .i64 (Ab (a - b))) ∧ w = w' := by
  go_enter Try.func37, Try.ntmps37
  go_wp2
  all_goals (go_ret; exact ⟨ret_int (by unfold Ab; split <;> omega), rfl⟩)
end Go.Proofs.Ytlphcpmneioogaa
