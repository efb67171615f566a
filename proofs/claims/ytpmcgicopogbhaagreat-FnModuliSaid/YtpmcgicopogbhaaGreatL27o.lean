/- Chapter 2: the order of figures. Conditions: as stated at each contract. -/
import Derived.Test.YtpmcgicopogbhaaGreatProg
import Derived.Test.YtpmcgicopogbhaaGreatBase
import Derived.Test.YtpmcgicopogbhaaGreatZy
import Derived.Test.YtpmcgicopogbhaaGreatRw
import Derived.Test.YtpmcgicopogbhaaGreatL01
import Derived.Test.YtpmcgicopogbhaaGreatCp
import Derived.Test.YtpmcgicopogbhaaGreatL18
import Derived.WalkKit
import Derived.WalkSpells
import Derived.WalkLawsBesides
import Derived.Lib.Hide
import Derived.Deep.QuietTactic
import Derived.BigQuiet
import Derived.Deep.Draws
import Derived.Deep.RegionHeld3
import Derived.StillTailTactics
namespace Go.Proofs.YtpmcgicopogbhaaGreat
set_option linter.unusedSimpArgs false
open Go.RowKit
set_option linter.unusedVariables false
/-- The order of two figures. -/
def fc (a b c d : Int) : Int := if 10000 * b + a < 10000 * d + c then -1 else if 10000 * d + c < 10000 * b + a then 1 else 0
theorem fc_bd (a b c d : Int) : -1 ≤ fc a b c d ∧ fc a b c d ≤ 1 := by unfold fc; split <;> (try split) <;> omega
/-- The order of two numbers. -/
def cmI (x y : Int) : Int := if x < y then -1 else if y < x then 1 else 0
def or2 (x y : Int) : Int := if x = 0 then y else x
theorem fc_lex {a b c d : Int} (h1 : okF a b = true) (h2 : okF c d = true) : fc a b c d = or2 (cmI b d) (cmI a c) := by
  obtain ⟨a1, a2, b1, b2⟩ := okF_iff h1
  obtain ⟨c1, c2, d1, d2⟩ := okF_iff h2
  unfold fc or2 cmI
  repeat' split
  all_goals omega
theorem Ints.mk2 (w : World) (T : TypeId) (a b : Int) : Ints (w.alloc (.cells #[.int .i64 a, .int .i64 b] T)) (some ⟨w.heap.size, 0, none⟩) [a, b] := by
  intro _
  refine ⟨_, _, rfl, by simp, fun i hi => ?_⟩
  match i, hi with
  | 0, _ => simp [go_sem]
  | 1, _ => simp [go_sem]
theorem l02Compare_c (a b c d : Int) (h1 : okF a b = true) (h2 : okF c d = true) (w : World) :
    Calls Tryz.prog 75 #[.agg #[.int .i64 a, .int .i64 b], .agg #[.int .i64 c, .int .i64 d]] w fun e w' => e = .returned (.int .i64 (fc a b c d)) ∧ Below w.heap.size w w' := by
  obtain ⟨a1, a2, b1, b2⟩ := okF_iff h1
  obtain ⟨c1, c2, d1, d2⟩ := okF_iff h2
  clear h1 h2
  go_enter Tryz.func75, Tryz.ntmps75
  go_wp2
  go_quiet (fail)
  all_goals
    go_wp2
  all_goals
    go_ret
    exact ⟨ret_int (by unfold fc; first | (rw [if_pos (by omega)]; done) | (rw [if_neg (by omega), if_pos (by omega)]; done) | (rw [if_neg (by omega), if_neg (by omega)]; done)), by repeat (with_reducible first | exact Below.refl _ _ | assumption | refine Bel.alloc ?_ _ | refine Bel.step (by assumption) ?_ | refine Below.drew ?_ | refine Bel.drewN ?_ _ | refine Below.setCell ?_ (by first | exact Nat.le_refl _ | omega | (simp; done) | (simp; omega)) _)⟩
theorem isNaN_c (x : Int) (w : World) :
    Calls Tryz.prog 131 #[.int .i64 x] w fun e w' => e = .returned (.bool false) ∧ w = w' := by
  have b1 : (x != x) = false := by simp
  go_enter Tryz.func131, Tryz.ntmps131
  go_wp2
  go_ret
  exact ⟨rfl, rfl⟩
theorem cmpCompare_c (x y : Int) (w : World) :
    Calls Tryz.prog 91 #[.int .i64 x, .int .i64 y] w fun e w' => e = .returned (.int .i64 (cmI x y)) ∧ w = w' := by
  rcases Int.lt_trichotomy x y with h | h | h
  · have HV := Lib.hid (show cmI x y = -1 by simp [cmI, h])
    go_enter Tryz.func91, Tryz.ntmps91
    go_wp2_with (first | (go_at_call 131; refine (isNaN_c _ _).mono ?_; rintro e w' ⟨rfl, rfl⟩))
    go_ret
    exact ⟨ret_int HV.out.symm, rfl⟩
  · have HV := Lib.hid (show cmI x y = 0 by simp [cmI, h])
    have h1 : ¬ x < y := by omega
    have h2 : ¬ y < x := by omega
    clear h
    go_enter Tryz.func91, Tryz.ntmps91
    go_wp2_with (first | (go_at_call 131; refine (isNaN_c _ _).mono ?_; rintro e w' ⟨rfl, rfl⟩))
    go_ret
    exact ⟨ret_int HV.out.symm, rfl⟩
  · have h1 : ¬ x < y := by omega
    have HV := Lib.hid (show cmI x y = 1 by simp [cmI, h, h1])
    go_enter Tryz.func91, Tryz.ntmps91
    go_wp2_with (first | (go_at_call 131; refine (isNaN_c _ _).mono ?_; rintro e w' ⟨rfl, rfl⟩))
    go_ret
    exact ⟨ret_int HV.out.symm, rfl⟩
theorem cmpOr_c (A : Option Addr) (c : Nat) (x y : Int) (w : World) (hA : Ints w A [x, y]) :
    Calls Tryz.prog 118 #[.slice A 2 c] w fun e w' => e = .returned (.int .i64 (or2 x y)) ∧ Below w.heap.size w w' := by
  obtain ⟨b, o, rfl, hbb, hc⟩ := hA (by simp)
  have hc0 : w.cell? ⟨b, o, none⟩ = some (.int .i64 x) := by simpa using hc 0 (by simp)
  have hc1 : w.cell? ⟨b, o + 1, none⟩ = some (.int .i64 y) := by simpa using hc 1 (by simp)
  clear hc hA
  by_cases h : x = 0
  · have HV := Lib.hid (show or2 x y = y by simp [or2, h])
    have b0 : (x != 0) = false := by simp [h]
    clear h
    go_enter Tryz.func118, Tryz.ntmps118
    go_wp2
    go_loop [5, 8] (fun v i => i = .int .i64 0 ∨ (i = .int .i64 1) ∨ (i = .int .i64 2 ∧ y = 0)) (fun _ i => 2 - (intOf i).toNat)
    case atStart => exact .inl rfl
    case round =>
      rcases hrel with rfl | rfl | ⟨rfl, hy⟩
      · go_wp2
        go_round
        case rel => exact .inr (.inl rfl)
        case measure => simp [intOf]
      · by_cases hy : y = 0
        · have b1 : (y != 0) = false := by simp [hy]
          have HY := Lib.hid hy
          clear hy
          go_wp2
          go_round
          case rel => exact .inr (.inr ⟨rfl, HY.out⟩)
          case measure => simp [intOf]
        · have b1 : (y != 0) = true := by simp [hy]
          clear hy
          go_wp2
          go_ret
          exact ⟨ret_int HV.out.symm, by repeat (with_reducible first | exact Below.refl _ _ | assumption | refine Bel.alloc ?_ _ | refine Bel.step (by assumption) ?_ | refine Below.drew ?_ | refine Bel.drewN ?_ _ | refine Below.setCell ?_ (by first | exact Nat.le_refl _ | omega | (simp; done) | (simp; omega)) _)⟩
      · have HY := Lib.hid hy
        clear hy
        go_wp2
        go_ret
        exact ⟨ret_int (by rw [HV.out, HY.out]), by repeat (with_reducible first | exact Below.refl _ _ | assumption | refine Bel.alloc ?_ _ | refine Bel.step (by assumption) ?_ | refine Below.drew ?_ | refine Bel.drewN ?_ _ | refine Below.setCell ?_ (by first | exact Nat.le_refl _ | omega | (simp; done) | (simp; omega)) _)⟩
  · have HV := Lib.hid (show or2 x y = x by simp [or2, h])
    have b0 : (x != 0) = true := by simp [h]
    clear h
    go_enter Tryz.func118, Tryz.ntmps118
    go_wp2
    go_loop [8] (fun i => i = .int .i64 0) (fun i => 2 - (intOf i).toNat)
    case atStart => rfl
    case round =>
      subst hrel
      go_wp2
      go_ret
      exact ⟨ret_int HV.out.symm, by repeat (with_reducible first | exact Below.refl _ _ | assumption | refine Bel.alloc ?_ _ | refine Bel.step (by assumption) ?_ | refine Below.drew ?_ | refine Bel.drewN ?_ _ | refine Below.setCell ?_ (by first | exact Nat.le_refl _ | omega | (simp; done) | (simp; omega)) _)⟩
set_option maxRecDepth 20000 in
theorem compareFigures_c (a b c d : Int) (h1 : okF a b = true) (h2 : okF c d = true) (w : World) :
    Calls Tryz.prog 72 #[.agg #[.int .i64 a, .int .i64 b], .agg #[.int .i64 c, .int .i64 d]] w fun e w' => e = .returned (.int .i64 (fc a b c d)) ∧ Below w.heap.size w w' := by
  have HV := Lib.hid (fc_lex h1 h2)
  clear h1 h2
  go_enter Tryz.func72, Tryz.ntmps72
  go_wp2
  generalize hV : (w.alloc (.cells #[.int .i64 a, .int .i64 b] 25)).alloc (.cells #[.int .i64 c, .int .i64 d] 25) = V
  have hbV : Below w.heap.size w V := by rw [← hV]; repeat (with_reducible first | exact Below.refl _ _ | assumption | refine Bel.alloc ?_ _ | refine Bel.step (by assumption) ?_ | refine Below.drew ?_ | refine Bel.drewN ?_ _ | refine Below.setCell ?_ (by first | exact Nat.le_refl _ | omega | (simp; done) | (simp; omega)) _)
  have v0 : V.cell? ⟨w.heap.size, 0, none⟩ = some (.int .i64 a) := by rw [← hV]; simp [go_sem]
  have v1 : V.cell? ⟨w.heap.size, 1, none⟩ = some (.int .i64 b) := by rw [← hV]; simp [go_sem]
  have v2 : V.cell? ⟨w.heap.size + 1, 0, none⟩ = some (.int .i64 c) := by rw [← hV]; simp [go_sem]
  have v3 : V.cell? ⟨w.heap.size + 1, 1, none⟩ = some (.int .i64 d) := by rw [← hV]; simp [go_sem]
  clear hV
  go_still_tail 10, (by kernel_rfl)
  still_call ((cmpCompare_c b d _).mono fun _ _ ⟨he, hw⟩ => ⟨he, hw.symm⟩)
  repeat still_step
  still_call ((cmpCompare_c a c _).mono fun _ _ ⟨he, hw⟩ => ⟨he, hw.symm⟩)
  refine wpStill_nil ?_
  change wpList _ _ _ _ _ (World.drew _)
  have hbU : Below w.heap.size w V.drew := Below.drew hbV
  generalize V.drew = U at hbU ⊢
  go_wp2_with (first | (go_at_call 118; refine (cmpOr_c _ _ _ _ _ (Ints.mk2 _ _ _ _)).mono ?_; rintro e w1 ⟨rfl, hb1⟩; obtain ⟨hc1, hf1, hz1⟩ := bel hb1; (try simp only [World.size_drew, World.cell?_drew, World.frozen?_drew, World.heap_drewN, World.cell?_drewN, World.frozen?_drewN] at hc1 hf1 hz1); (try have hl1 : w.heap.size < w1.heap.size := zl hb1); (try have hm1 : w.heap.size + 1 < w1.heap.size := zl hb1); (try have hn1 : w.heap.size + 1 + 1 < w1.heap.size := zl hb1); (try have hp1 : b < w1.heap.size := zl hb1); (try have ho1 : b' < w1.heap.size := by (have hq := hb1.size; (try simp at hq); omega))))
  go_ret
  exact ⟨ret_int HV.out.symm, by repeat (with_reducible first | exact Below.refl _ _ | assumption | refine Bel.alloc ?_ _ | refine Bel.step (by assumption) ?_ | refine Below.drew ?_ | refine Bel.drewN ?_ _ | refine Below.setCell ?_ (by first | exact Nat.le_refl _ | omega | (simp; done) | (simp; omega)) _)⟩
end Go.Proofs.YtpmcgicopogbhaaGreat
