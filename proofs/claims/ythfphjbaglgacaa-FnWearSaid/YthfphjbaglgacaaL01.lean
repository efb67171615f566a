/- The numbers of chapter 1: each function of the program and of the reference returns the same pure function of its arguments. Conditions: arguments of at most 4 * 10^18. -/
import Derived.Test.YthfphjbaglgacaaProg
import Derived.Test.YthfphjbaglgacaaBase
import Derived.WalkKit
import Derived.WalkSpells
import Derived.WalkLawsBesides
import Derived.Lib.Hide
import Derived.Deep.QuietTactic
import Derived.BigQuiet
import Derived.Deep.Draws
namespace Go.Proofs.Ythfphjbaglgacaa
open Go.RowKit
set_option linter.unusedVariables false

theorem l01In_c (n lo hi : Int) (w : World) :
    Calls Try.prog 78 #[.int .i64 n, .int .i64 lo, .int .i64 hi] w fun e w' => e = .returned (.bool (inB n lo hi)) ∧ w = w' := by
  go_enter Try.func78, Try.ntmps78
  go_wp2
  all_goals (go_ret; exact ⟨ret_bool (by simp [inB]; omega), rfl⟩)
theorem within_c (n lo hi : Int) (w : World) :
    Calls Try.prog 75 #[.int .i64 n, .int .i64 lo, .int .i64 hi] w fun e w' => e = .returned (.bool (inB n lo hi)) ∧ w = w' := by
  go_enter Try.func75, Try.ntmps75
  go_wp2
  all_goals (go_ret; exact ⟨ret_bool (by simp [inB]; omega), rfl⟩)
theorem isValue_c (n : Int) (w : World) :
    Calls Try.prog 105 #[.int .i64 n] w fun e w' => e = .returned (.bool (inB n (-1000000000000) 1000000000000)) ∧ w = w' := by
  go_enter Try.func105, Try.ntmps105
  go_wp2
  all_goals (go_ret; exact ⟨ret_bool (by simp [inB]; omega), rfl⟩)
theorem l01Is_c (n : Int) (w : World) :
    Calls Try.prog 106 #[.int .i64 n] w fun e w' => e = .returned (.bool (inB n (-1000000000000) 1000000000000)) ∧ w = w' := by
  go_enter Try.func106, Try.ntmps106
  go_wp2_with (first | (go_at_call 78; refine (l01In_c _ _ _ _).mono ?_; rintro e w' ⟨rfl, rfl⟩))
  go_ret
  exact ⟨rfl, rfl⟩
theorem down_c (a b : Int) (hb : b ≠ 0) (h1 : -4000000000000000000 ≤ a) (h2 : a ≤ 4000000000000000000) (h3 : -4000000000000000000 ≤ b) (h4 : b ≤ 4000000000000000000) (w : World) :
    Calls Try.prog 115 #[.int .i64 a, .int .i64 b] w fun e w' => e = .returned (.int .i64 (Fl a b)) ∧ w = w' := by
  obtain ⟨t1, t2⟩ := tdiv_bd a b 4000000000000000000 h1 h2
  go_enter Try.func115, Try.ntmps115
  go_wp2
  · go_ret
    exact ⟨ret_int (fdiv_eq a b hb (.inl (by assumption))).symm, rfl⟩
  · have h := ‹(a.tmod b != 0) = true ∧ _›
    go_ret
    exact ⟨ret_int (fdiv_dn a b hb (by assumption) (by simpa using h.2)).symm, rfl⟩
  · have h := ‹(a.tmod b != 0) = false ∨ _›
    go_ret
    refine ⟨ret_int (fdiv_eq a b hb (.inr ?_)).symm, rfl⟩
    rcases h with h | h
    · simp at h; exact absurd h (by assumption)
    · simpa using h
theorem up_c (a b : Int) (hb : b ≠ 0) (h1 : -4000000000000000000 ≤ a) (h2 : a ≤ 4000000000000000000) (h3 : -4000000000000000000 ≤ b) (h4 : b ≤ 4000000000000000000) (w : World) :
    Calls Try.prog 114 #[.int .i64 a, .int .i64 b] w fun e w' => e = .returned (.int .i64 (Cl a b)) ∧ w = w' := by
  obtain ⟨t1, t2⟩ := Fl_bd (-a) b 4000000000000000000 (by omega) (by omega)
  go_enter Try.func114, Try.ntmps114
  go_wp2_with (first | (go_at_call 115; refine (down_c _ _ (by omega) (by omega) (by omega) (by omega) (by omega) _).mono ?_; rintro e w' ⟨rfl, rfl⟩))
  go_ret
  exact ⟨rfl, rfl⟩
theorem near_c (a b : Int) (hb : b ≠ 0) (h1 : -1000000000000000000 ≤ a) (h2 : a ≤ 1000000000000000000) (h3 : -1000000000000000000 ≤ b) (h4 : b ≤ 1000000000000000000) (w : World) :
    Calls Try.prog 107 #[.int .i64 a, .int .i64 b] w fun e w' => e = .returned (.int .i64 (Nr a b)) ∧ w = w' := by
  by_cases h : b < 0
  · go_enter Try.func107, Try.ntmps107
    go_wp2_with (first | (go_at_call 115; refine (down_c _ _ (by omega) (by omega) (by omega) (by omega) (by omega) _).mono ?_; rintro e w' ⟨rfl, rfl⟩))
    go_ret
    exact ⟨ret_int (Nr_neg a b), rfl⟩
  · go_enter Try.func107, Try.ntmps107
    go_wp2_with (first | (go_at_call 115; refine (down_c _ _ (by omega) (by omega) (by omega) (by omega) (by omega) _).mono ?_; rintro e w' ⟨rfl, rfl⟩))
    go_ret
    exact ⟨rfl, rfl⟩
theorem l01Floor_c (a b : Int) (hb : b ≠ 0) (h1 : -4000000000000000000 ≤ a) (h2 : a ≤ 4000000000000000000) (h3 : -4000000000000000000 ≤ b) (h4 : b ≤ 4000000000000000000) (w : World) :
    Calls Try.prog 119 #[.int .i64 a, .int .i64 b] w fun e w' => e = .returned (.int .i64 (Fl a b)) ∧ w = w' := by
  obtain ⟨t1, t2⟩ := tdiv_bd a b 4000000000000000000 h1 h2
  by_cases h : b < 0
  · have K := Lib.hid (Fl_floor_neg a b h)
    go_enter Try.func119, Try.ntmps119
    go_wp2
    · go_ret
      exact ⟨ret_int (K.out.1 (by omega)).symm, rfl⟩
    · go_ret
      exact ⟨ret_int (K.out.2 (by omega)).symm, rfl⟩
  · have K := Lib.hid (Fl_floor_pos a b (by omega))
    go_enter Try.func119, Try.ntmps119
    go_wp2
    · go_ret
      exact ⟨ret_int (K.out.1 (by omega)).symm, rfl⟩
    · go_ret
      exact ⟨ret_int (K.out.2 (by omega)).symm, rfl⟩
theorem l01Ceil_c (a b : Int) (hb : b ≠ 0) (h1 : -4000000000000000000 ≤ a) (h2 : a ≤ 4000000000000000000) (h3 : -4000000000000000000 ≤ b) (h4 : b ≤ 4000000000000000000) (w : World) :
    Calls Try.prog 118 #[.int .i64 a, .int .i64 b] w fun e w' => e = .returned (.int .i64 (Cl a b)) ∧ w = w' := by
  obtain ⟨t1, t2⟩ := Fl_bd (-a) b 4000000000000000000 (by omega) (by omega)
  go_enter Try.func118, Try.ntmps118
  go_wp2_with (first | (go_at_call 119; refine (l01Floor_c _ _ (by omega) (by omega) (by omega) (by omega) (by omega) _).mono ?_; rintro e w' ⟨rfl, rfl⟩))
  go_ret
  exact ⟨rfl, rfl⟩
theorem l01Nearest_c (a b : Int) (hb : b ≠ 0) (h1 : -1000000000000000000 ≤ a) (h2 : a ≤ 1000000000000000000) (h3 : -1000000000000000000 ≤ b) (h4 : b ≤ 1000000000000000000) (w : World) :
    Calls Try.prog 109 #[.int .i64 a, .int .i64 b] w fun e w' => e = .returned (.int .i64 (Nr a b)) ∧ w = w' := by
  go_enter Try.func109, Try.ntmps109
  go_wp2_with (first | (go_at_call 119; refine (l01Floor_c _ _ (by omega) (by omega) (by omega) (by omega) (by omega) _).mono ?_; rintro e w' ⟨rfl, rfl⟩))
  go_ret
  exact ⟨rfl, rfl⟩
theorem l01Abs_c (a : Int) (h1 : -4000000000000000000 ≤ a) (h2 : a ≤ 4000000000000000000) (w : World) :
    Calls Try.prog 137 #[.int .i64 a] w fun e w' => e = .returned (.int .i64 (Ab a)) ∧ w = w' := by
  go_enter Try.func137, Try.ntmps137
  go_wp2
  all_goals (go_ret; exact ⟨ret_int (by unfold Ab; split <;> omega), rfl⟩)
theorem distance_c (a b : Int) (h1 : -2000000000000000000 ≤ a) (h2 : a ≤ 2000000000000000000) (h3 : -2000000000000000000 ≤ b) (h4 : b ≤ 2000000000000000000) (w : World) :
    Calls Try.prog 136 #[.int .i64 a, .int .i64 b] w fun e w' => e = .returned (.int .i64 (Ab (a - b))) ∧ w = w' := by
  go_enter Try.func136, Try.ntmps136
  go_wp2
  all_goals (go_ret; exact ⟨ret_int (by unfold Ab; split <;> omega), rfl⟩)
theorem divisorOf_c (a b : Int) (h1 : -4000000000000000000 ≤ a) (h2 : a ≤ 4000000000000000000) (h3 : -4000000000000000000 ≤ b) (h4 : b ≤ 4000000000000000000) (w : World) :
    Calls Try.prog 173 #[.int .i64 a, .int .i64 b] w fun e w' => e = .returned (.int .i64 (Gc a b)) ∧ ∃ n, w' = w.drewN n := by
  go_enter Try.func173, Try.ntmps173
  go_wp2
  go_loopw [0, 1] (fun x y wr => ∃ p q : Int, x = .int .i64 p ∧ y = .int .i64 q ∧ Gc p q = Gc a b ∧ -4000000000000000000 ≤ p ∧ p ≤ 4000000000000000000 ∧ -4000000000000000000 ≤ q ∧ q ≤ 4000000000000000000 ∧ ∃ n, wr = w.drewN n) (fun _ y _ => (intOf y).natAbs)
  case atStart => exact ⟨a, b, rfl, rfl, rfl, h1, h2, h3, h4, 0, rfl⟩
  case round =>
    obtain ⟨p, q, rfl, rfl, hg, p1, p2, q1, q2, n, rfl⟩ := hrel
    clear h1 h2 h3 h4
    have HG := Lib.hid hg
    clear hg
    by_cases hq : q = 0
    · subst hq
      go_wp2
      all_goals (go_ret; exact ⟨ret_int (by rw [← HG.out, Gc_zero]; unfold Ab; split <;> omega), n, rfl⟩)
    · obtain ⟨f0, f1, f2, f3⟩ := tmod_facts p q hq
      clear f0
      go_wp2
      go_quiet (fail)
      go_wp2
      go_roundw
      case rel => exact ⟨q, p.tmod q, rfl, rfl, by rw [Gc_step]; exact HG.out, q1, q2, by omega, by omega, _, World.drewN_drewN _ _ _⟩
      case measure => exact f3
theorem l01Gcd_c (a b : Int) (h1 : -4000000000000000000 ≤ a) (h2 : a ≤ 4000000000000000000) (h3 : -4000000000000000000 ≤ b) (h4 : b ≤ 4000000000000000000) (w : World) :
    Calls Try.prog 152 #[.int .i64 a, .int .i64 b] w fun e w' => e = .returned (.int .i64 (Gc a b)) ∧ ∃ n, w' = w.drewN n := by
  have a0 := Ab_nat a
  have b0 := Ab_nat b
  have a1 : 0 ≤ Ab a := by omega
  have a2 : Ab a ≤ 4000000000000000000 := by omega
  have b1 : 0 ≤ Ab b := by omega
  have b2 : Ab b ≤ 4000000000000000000 := by omega
  clear a0 b0
  go_enter Try.func152, Try.ntmps152
  go_wp2_with (first | (go_at_call 137; refine (l01Abs_c _ (by omega) (by omega) _).mono ?_; rintro e w' ⟨rfl, rfl⟩))
  go_loopw [0, 1] (fun x y wr => ∃ p q : Int, x = .int .i64 p ∧ y = .int .i64 q ∧ Gc p q = Gc a b ∧ 0 ≤ p ∧ p ≤ 4000000000000000000 ∧ 0 ≤ q ∧ q ≤ 4000000000000000000 ∧ ∃ n, wr = w.drewN n) (fun _ y _ => (intOf y).natAbs)
  case atStart => exact ⟨Ab a, Ab b, rfl, rfl, Gc_Ab a b, a1, a2, b1, b2, 0, rfl⟩
  case round =>
    obtain ⟨p, q, rfl, rfl, hg, p1, p2, q1, q2, n, rfl⟩ := hrel
    clear h1 h2 h3 h4 a1 a2 b1 b2
    have HG := Lib.hid hg
    clear hg
    by_cases hq : q = 0
    · subst hq
      go_wp2
      all_goals (go_ret; exact ⟨ret_int (by rw [← HG.out, Gc_zero]; unfold Ab; split <;> omega), n, rfl⟩)
    · obtain ⟨f0, f1, f2, f3⟩ := tmod_facts p q hq
      have f4 : p.tmod q = p % q := Int.tmod_eq_emod_of_nonneg p1
      have HF := Lib.hid f4
      rw [f4] at f1 f3
      clear f0 f2 f4
      go_wp2
      go_quiet (fail)
      go_wp2
      go_roundw
      case rel => exact ⟨q, p % q, rfl, rfl, by rw [← HF.out, Gc_step]; exact HG.out, q1, q2, by omega, by omega, _, World.drewN_drewN _ _ _⟩
      case measure => simp [intOf]; omega
end Go.Proofs.Ythfphjbaglgacaa
