/- Chapter 28: models of wear, places that are seen, fits. Conditions: as stated at each contract. -/
import Derived.Test.YtpmcgicopogbhaaProg
import Derived.Test.YtpmcgicopogbhaaBase
import Derived.Test.YtpmcgicopogbhaaL01
import Derived.Test.YtpmcgicopogbhaaCp
import Derived.WalkKit
import Derived.WalkSpells
import Derived.WalkLawsBesides
import Derived.Lib.Hide
import Derived.Deep.QuietTactic
import Derived.BigQuiet
import Derived.Deep.Draws
import Derived.Deep.RegionHeld3
namespace Go.Proofs.Ytpmcgicopogbhaa
open Go.RowKit
set_option linter.unusedVariables false

def isModel (s z : Int) : Bool := inB s (-200) 200 && inB z (-100000) 100000
theorem isModel_iff {s z : Int} (h : isModel s z = true) : -200 ≤ s ∧ s ≤ 200 ∧ -100000 ≤ z ∧ z ≤ 100000 := by
  simp only [isModel, Bool.and_eq_true, inB_iff] at h; omega
/-- Where a true place is seen. -/
def Sn (s z t : Int) : Int := t + s + Nr (t * z) 1000000
def seenAtV (s z t : Int) : Int := if isModel s z && inB t 0 100000 then Sn s z t else 0
def seenAtE (s z t : Int) : Int := if isModel s z then (if inB t 0 100000 then 0 else 2) else 1
theorem isModel_S (s t : Int) (w : World) :
    Calls Try.prog 129 #[.agg #[.int .i64 s, .int .i64 t]] w fun e w' => e = .returned (.bool (isModel s t)) ∧ Below w.heap.size w w' := by
  go_enter Try.func129, Try.ntmps129
  go_wp2_with (first | (go_at_call 124; refine (l01In_c _ _ _ _).mono ?_; rintro e w' ⟨rfl, rfl⟩))
  all_goals (go_ret; exact ⟨ret_bool (by simp [isModel, *]), Bel.alloc (Below.refl _ _) _⟩)
theorem isModel_I (s t : Int) (w : World) :
    Calls Try.prog 58 #[.agg #[.int .i64 s, .int .i64 t]] w fun e w' => e = .returned (.bool (isModel s t)) ∧ Below w.heap.size w w' := by
  go_enter Try.func58, Try.ntmps58
  go_wp2_with (first | (go_at_call 103; refine (within_c _ _ _ _).mono ?_; rintro e w' ⟨rfl, rfl⟩))
  all_goals (go_ret; exact ⟨ret_bool (by simp [isModel, *]), Bel.alloc (Below.refl _ _) _⟩)
theorem l28Place_c (n : Int) (w : World) :
    Calls Try.prog 130 #[.int .i64 n] w fun e w' => e = .returned (.bool (inB n 0 100000)) ∧ w = w' := by
  go_enter Try.func130, Try.ntmps130
  go_wp2_with (first | (go_at_call 124; refine (l01In_c _ _ _ _).mono ?_; rintro e w' ⟨rfl, rfl⟩))
  go_ret
  exact ⟨rfl, rfl⟩
theorem isOnRule_c (n : Int) (w : World) :
    Calls Try.prog 127 #[.int .i64 n] w fun e w' => e = .returned (.bool (inB n 0 100000)) ∧ w = w' := by
  go_enter Try.func127, Try.ntmps127
  go_wp2_with (first | (go_at_call 103; refine (within_c _ _ _ _).mono ?_; rintro e w' ⟨rfl, rfl⟩))
  go_ret
  exact ⟨rfl, rfl⟩
theorem seen_l01Nearest_c (s z t : Int) (h1 : -1000000 ≤ s) (h2 : s ≤ 1000000) (h3 : -1000000 ≤ z) (h4 : z ≤ 1000000) (h5 : -1000000 ≤ t) (h6 : t ≤ 1000000) (w : World) :
    Calls Try.prog 131 #[.agg #[.int .i64 s, .int .i64 z], .int .i64 t] w fun e w' => e = .returned (.int .i64 (Sn s z t)) ∧ Below w.heap.size w w' := by
  obtain ⟨m1, m2⟩ := mul_bd t z 1000000 1000000 h5 h6 h3 h4
  obtain ⟨n1, n2⟩ := Nr_bd (t * z) 1000000 3000000000000 (by omega) (by omega)
  have e1 : IntKind.i64.wrap (t * z) = t * z := wr64 (by omega) (by omega)
  have e2 : IntKind.i64.wrap (t + s) = t + s := wr64 (by omega) (by omega)
  have e3 : IntKind.i64.wrap (t + s + Nr (t * z) 1000000) = t + s + Nr (t * z) 1000000 := wr64 (by omega) (by omega)
  go_enter Try.func131, Try.ntmps131
  go_wp2
  go_quiet ((first | (go_at_call 167; with_reducible exact quiet_left (l01Nearest_c _ _ (by omega) (by omega) (by omega) (by omega) (by omega) _))))
  go_wp2
  go_ret
  exact ⟨rfl, by repeat (with_reducible first | exact Below.refl _ _ | assumption | refine Bel.alloc ?_ _ | refine Bel.step (by assumption) ?_ | refine Below.drew ?_ | refine Bel.drewN ?_ _ | refine Below.setCell ?_ (by first | exact Nat.le_refl _ | omega | (simp; done) | (simp; omega)) _)⟩
theorem seen_near_c (s z t : Int) (h1 : -1000000 ≤ s) (h2 : s ≤ 1000000) (h3 : -1000000 ≤ z) (h4 : z ≤ 1000000) (h5 : -1000000 ≤ t) (h6 : t ≤ 1000000) (w : World) :
    Calls Try.prog 140 #[.agg #[.int .i64 s, .int .i64 z], .int .i64 t] w fun e w' => e = .returned (.int .i64 (Sn s z t)) ∧ Below w.heap.size w w' := by
  obtain ⟨m1, m2⟩ := mul_bd t z 1000000 1000000 h5 h6 h3 h4
  obtain ⟨n1, n2⟩ := Nr_bd (t * z) 1000000 3000000000000 (by omega) (by omega)
  have e1 : IntKind.i64.wrap (t * z) = t * z := wr64 (by omega) (by omega)
  have e2 : IntKind.i64.wrap (t + s) = t + s := wr64 (by omega) (by omega)
  have e3 : IntKind.i64.wrap (t + s + Nr (t * z) 1000000) = t + s + Nr (t * z) 1000000 := wr64 (by omega) (by omega)
  go_enter Try.func140, Try.ntmps140
  go_wp2
  go_quiet ((first | (go_at_call 166; with_reducible exact quiet_left (near_c _ _ (by omega) (by omega) (by omega) (by omega) (by omega) _))))
  go_wp2
  go_ret
  exact ⟨rfl, by repeat (with_reducible first | exact Below.refl _ _ | assumption | refine Bel.alloc ?_ _ | refine Bel.step (by assumption) ?_ | refine Below.drew ?_ | refine Bel.drewN ?_ _ | refine Below.setCell ?_ (by first | exact Nat.le_refl _ | omega | (simp; done) | (simp; omega)) _)⟩
theorem SeenAt_I (s z t : Int) (w : World) :
    Calls Try.prog 54 #[.agg #[.int .i64 s, .int .i64 z], .int .i64 t] w fun e w' => e = .returned (.tuple #[.int .i64 (seenAtV s z t), .int .i64 (seenAtE s z t)]) ∧ Below w.heap.size w w' := by
  by_cases c1 : isModel s z = true
  · obtain ⟨a1, a2, a3, a4⟩ := isModel_iff c1
    by_cases c2 : inB t 0 100000 = true
    · obtain ⟨b1, b2⟩ := inB_iff.1 c2
      go_enter Try.func54, Try.ntmps54
      go_wp2_with (first | (go_at_call 58; refine (isModel_I _ _ _).mono ?_; rintro e w1 ⟨rfl, hb1⟩; obtain ⟨hc1, hf1, hz1⟩ := bel hb1; (try simp only [World.size_drew, World.cell?_drew, World.frozen?_drew] at hc1 hf1 hz1); (try simp only [World.heap_drewN, World.cell?_drewN, World.frozen?_drewN] at hc1 hf1 hz1); (try have hl1 : w.heap.size < w1.heap.size := by (have hq := hb1.size; (try simp at hq); omega)); (try have hm1 : w.heap.size + 1 < w1.heap.size := by (have hq := hb1.size; (try simp at hq); omega)); (try have hn1 : w.heap.size + 1 + 1 < w1.heap.size := by (have hq := hb1.size; (try simp at hq); omega)); (try have hp1 : b < w1.heap.size := by (have hq := hb1.size; (try simp at hq); omega)); (try have ho1 : b' < w1.heap.size := by (have hq := hb1.size; (try simp at hq); omega))) | (go_at_call 130; refine (l28Place_c _ _).mono ?_; rintro e w' ⟨rfl, rfl⟩) | (go_at_call 127; refine (isOnRule_c _ _).mono ?_; rintro e w' ⟨rfl, rfl⟩) | (go_at_call 131; refine (seen_l01Nearest_c _ _ _ (by omega) (by omega) (by omega) (by omega) (by omega) (by omega) _).mono ?_; rintro e w1 ⟨rfl, hb1⟩; obtain ⟨hc1, hf1, hz1⟩ := bel hb1; (try simp only [World.size_drew, World.cell?_drew, World.frozen?_drew] at hc1 hf1 hz1); (try simp only [World.heap_drewN, World.cell?_drewN, World.frozen?_drewN] at hc1 hf1 hz1); (try have hl1 : w.heap.size < w1.heap.size := by (have hq := hb1.size; (try simp at hq); omega)); (try have hm1 : w.heap.size + 1 < w1.heap.size := by (have hq := hb1.size; (try simp at hq); omega)); (try have hn1 : w.heap.size + 1 + 1 < w1.heap.size := by (have hq := hb1.size; (try simp at hq); omega)); (try have hp1 : b < w1.heap.size := by (have hq := hb1.size; (try simp at hq); omega)); (try have ho1 : b' < w1.heap.size := by (have hq := hb1.size; (try simp at hq); omega))) | (go_at_call 140; refine (seen_near_c _ _ _ (by omega) (by omega) (by omega) (by omega) (by omega) (by omega) _).mono ?_; rintro e w1 ⟨rfl, hb1⟩; obtain ⟨hc1, hf1, hz1⟩ := bel hb1; (try simp only [World.size_drew, World.cell?_drew, World.frozen?_drew] at hc1 hf1 hz1); (try simp only [World.heap_drewN, World.cell?_drewN, World.frozen?_drewN] at hc1 hf1 hz1); (try have hl1 : w.heap.size < w1.heap.size := by (have hq := hb1.size; (try simp at hq); omega)); (try have hm1 : w.heap.size + 1 < w1.heap.size := by (have hq := hb1.size; (try simp at hq); omega)); (try have hn1 : w.heap.size + 1 + 1 < w1.heap.size := by (have hq := hb1.size; (try simp at hq); omega)); (try have hp1 : b < w1.heap.size := by (have hq := hb1.size; (try simp at hq); omega)); (try have ho1 : b' < w1.heap.size := by (have hq := hb1.size; (try simp at hq); omega))))
      go_ret2
      exact ⟨by simp [seenAtV, seenAtE, c1, c2], by repeat (with_reducible first | exact Below.refl _ _ | assumption | refine Bel.alloc ?_ _ | refine Bel.step (by assumption) ?_ | refine Below.drew ?_ | refine Bel.drewN ?_ _ | refine Below.setCell ?_ (by first | exact Nat.le_refl _ | omega | (simp; done) | (simp; omega)) _)⟩
    · have c2' : inB t 0 100000 = false := by simpa using c2
      clear c2
      go_enter Try.func54, Try.ntmps54
      go_wp2_with (first | (go_at_call 58; refine (isModel_I _ _ _).mono ?_; rintro e w1 ⟨rfl, hb1⟩; obtain ⟨hc1, hf1, hz1⟩ := bel hb1; (try simp only [World.size_drew, World.cell?_drew, World.frozen?_drew] at hc1 hf1 hz1); (try simp only [World.heap_drewN, World.cell?_drewN, World.frozen?_drewN] at hc1 hf1 hz1); (try have hl1 : w.heap.size < w1.heap.size := by (have hq := hb1.size; (try simp at hq); omega)); (try have hm1 : w.heap.size + 1 < w1.heap.size := by (have hq := hb1.size; (try simp at hq); omega)); (try have hn1 : w.heap.size + 1 + 1 < w1.heap.size := by (have hq := hb1.size; (try simp at hq); omega)); (try have hp1 : b < w1.heap.size := by (have hq := hb1.size; (try simp at hq); omega)); (try have ho1 : b' < w1.heap.size := by (have hq := hb1.size; (try simp at hq); omega))) | (go_at_call 130; refine (l28Place_c _ _).mono ?_; rintro e w' ⟨rfl, rfl⟩) | (go_at_call 127; refine (isOnRule_c _ _).mono ?_; rintro e w' ⟨rfl, rfl⟩))
      go_ret2
      exact ⟨by simp [seenAtV, seenAtE, c1, c2'], by repeat (with_reducible first | exact Below.refl _ _ | assumption | refine Bel.alloc ?_ _ | refine Bel.step (by assumption) ?_ | refine Below.drew ?_ | refine Bel.drewN ?_ _ | refine Below.setCell ?_ (by first | exact Nat.le_refl _ | omega | (simp; done) | (simp; omega)) _)⟩
  · have c1' : isModel s z = false := by simpa using c1
    clear c1
    go_enter Try.func54, Try.ntmps54
    go_wp2_with (first | (go_at_call 58; refine (isModel_I _ _ _).mono ?_; rintro e w1 ⟨rfl, hb1⟩; obtain ⟨hc1, hf1, hz1⟩ := bel hb1; (try simp only [World.size_drew, World.cell?_drew, World.frozen?_drew] at hc1 hf1 hz1); (try simp only [World.heap_drewN, World.cell?_drewN, World.frozen?_drewN] at hc1 hf1 hz1); (try have hl1 : w.heap.size < w1.heap.size := by (have hq := hb1.size; (try simp at hq); omega)); (try have hm1 : w.heap.size + 1 < w1.heap.size := by (have hq := hb1.size; (try simp at hq); omega)); (try have hn1 : w.heap.size + 1 + 1 < w1.heap.size := by (have hq := hb1.size; (try simp at hq); omega)); (try have hp1 : b < w1.heap.size := by (have hq := hb1.size; (try simp at hq); omega)); (try have ho1 : b' < w1.heap.size := by (have hq := hb1.size; (try simp at hq); omega))))
    go_ret2
    exact ⟨by simp [seenAtV, seenAtE, c1'], by repeat (with_reducible first | exact Below.refl _ _ | assumption | refine Bel.alloc ?_ _ | refine Bel.step (by assumption) ?_ | refine Below.drew ?_ | refine Bel.drewN ?_ _ | refine Below.setCell ?_ (by first | exact Nat.le_refl _ | omega | (simp; done) | (simp; omega)) _)⟩

/-- The error of a model for a test. -/
def Er (s z t n : Int) : Int := Ab (n - Sn s z t)
theorem Sn_bd (s z t : Int) (h1 : -1000000 ≤ s) (h2 : s ≤ 1000000) (h3 : -1000000 ≤ z) (h4 : z ≤ 1000000) (h5 : -1000000 ≤ t) (h6 : t ≤ 1000000) : -3000002000000 ≤ Sn s z t ∧ Sn s z t ≤ 3000002000000 := by
  obtain ⟨m1, m2⟩ := mul_bd t z 1000000 1000000 h5 h6 h3 h4
  obtain ⟨n1, n2⟩ := Nr_bd (t * z) 1000000 3000000000000 (by omega) (by omega)
  unfold Sn; omega
theorem Ab_nonneg (a : Int) : 0 ≤ Ab a := by unfold Ab; split <;> omega
theorem Ab_bd (a B : Int) (h1 : -B ≤ a) (h2 : a ≤ B) : 0 ≤ Ab a ∧ Ab a ≤ B := by unfold Ab; split <;> omega
theorem Er_bd (s z t n : Int) (h1 : -1000000 ≤ s) (h2 : s ≤ 1000000) (h3 : -1000000 ≤ z) (h4 : z ≤ 1000000) (h5 : -1000000 ≤ t) (h6 : t ≤ 1000000) (h7 : -1000000 ≤ n) (h8 : n ≤ 1000000) : 0 ≤ Er s z t n ∧ Er s z t n ≤ 4000000000000 := by
  obtain ⟨m1, m2⟩ := Sn_bd s z t h1 h2 h3 h4 h5 h6
  obtain ⟨n1, n2⟩ := Ab_bd (n - Sn s z t) 4000000000000 (by omega) (by omega)
  exact ⟨n1, n2⟩
theorem l28Error_c (s z t n : Int) (h1 : -1000000 ≤ s) (h2 : s ≤ 1000000) (h3 : -1000000 ≤ z) (h4 : z ≤ 1000000) (h5 : -1000000 ≤ t) (h6 : t ≤ 1000000) (h7 : -1000000 ≤ n) (h8 : n ≤ 1000000) (w : World) :
    Calls Try.prog 132 #[.agg #[.int .i64 s, .int .i64 z], .agg #[.int .i64 t, .int .i64 n]] w fun e w' => e = .returned (.int .i64 (Er s z t n)) ∧ Below w.heap.size w w' := by
  obtain ⟨m1, m2⟩ := Sn_bd s z t h1 h2 h3 h4 h5 h6
  have e1 : IntKind.i64.wrap (n - Sn s z t) = n - Sn s z t := wr64 (by omega) (by omega)
  go_enter Try.func132, Try.ntmps132
  go_wp2
  go_region_held3 (fun w' => w'.cell? ⟨w.heap.size, 0, none⟩ = some (.int .i64 s) ∧ w'.cell? ⟨w.heap.size, 1, none⟩ = some (.int .i64 z) ∧ w'.cell? ⟨w.heap.size + 1, 0, none⟩ = some (.int .i64 t) ∧ w'.cell? ⟨w.heap.size + 1, 1, none⟩ = some (.int .i64 n)) (simp [go_sem, *])
      (first | (go_at_call 131; refine (seen_l01Nearest_c _ _ _ (by omega) (by omega) (by omega) (by omega) (by omega) (by omega) _).mono ?_; rintro e w1 ⟨rfl, hb1⟩; obtain ⟨hc1, hf1, hz1⟩ := bel hb1; (try simp only [World.size_drew, World.cell?_drew, World.frozen?_drew] at hc1 hf1 hz1); (try simp only [World.heap_drewN, World.cell?_drewN, World.frozen?_drewN] at hc1 hf1 hz1); (try have hl1 : w.heap.size < w1.heap.size := by (have hq := hb1.size; (try simp at hq); omega)); (try have hm1 : w.heap.size + 1 < w1.heap.size := by (have hq := hb1.size; (try simp at hq); omega)); (try have hn1 : w.heap.size + 1 + 1 < w1.heap.size := by (have hq := hb1.size; (try simp at hq); omega)); (try have hp1 : b < w1.heap.size := by (have hq := hb1.size; (try simp at hq); omega)); (try have ho1 : b' < w1.heap.size := by (have hq := hb1.size; (try simp at hq); omega))) | (go_at_call 160; refine (l01Abs_c _ (by omega) (by omega) _).mono ?_; rintro e w' ⟨rfl, rfl⟩))
  go_wp2
  go_ret
  exact ⟨rfl, by repeat (with_reducible first | exact Below.refl _ _ | assumption | refine Bel.alloc ?_ _ | refine Bel.step (by assumption) ?_ | refine Below.drew ?_ | refine Bel.drewN ?_ _ | refine Below.setCell ?_ (by first | exact Nat.le_refl _ | omega | (simp; done) | (simp; omega)) _)⟩
theorem errorOf_c (s z t n : Int) (h1 : -1000000 ≤ s) (h2 : s ≤ 1000000) (h3 : -1000000 ≤ z) (h4 : z ≤ 1000000) (h5 : -1000000 ≤ t) (h6 : t ≤ 1000000) (h7 : -1000000 ≤ n) (h8 : n ≤ 1000000) (w : World) :
    Calls Try.prog 128 #[.agg #[.int .i64 s, .int .i64 z], .agg #[.int .i64 t, .int .i64 n]] w fun e w' => e = .returned (.int .i64 (Er s z t n)) ∧ Below w.heap.size w w' := by
  obtain ⟨m1, m2⟩ := Sn_bd s z t h1 h2 h3 h4 h5 h6
  have e1 : IntKind.i64.wrap (n - Sn s z t) = n - Sn s z t := wr64 (by omega) (by omega)
  go_enter Try.func128, Try.ntmps128
  go_wp2
  go_region_held3 (fun w' => w'.cell? ⟨w.heap.size, 0, none⟩ = some (.int .i64 s) ∧ w'.cell? ⟨w.heap.size, 1, none⟩ = some (.int .i64 z) ∧ w'.cell? ⟨w.heap.size + 1, 0, none⟩ = some (.int .i64 t) ∧ w'.cell? ⟨w.heap.size + 1, 1, none⟩ = some (.int .i64 n)) (simp [go_sem, *])
      (first | (go_at_call 140; refine (seen_near_c _ _ _ (by omega) (by omega) (by omega) (by omega) (by omega) (by omega) _).mono ?_; rintro e w1 ⟨rfl, hb1⟩; obtain ⟨hc1, hf1, hz1⟩ := bel hb1; (try simp only [World.size_drew, World.cell?_drew, World.frozen?_drew] at hc1 hf1 hz1); (try simp only [World.heap_drewN, World.cell?_drewN, World.frozen?_drewN] at hc1 hf1 hz1); (try have hl1 : w.heap.size < w1.heap.size := by (have hq := hb1.size; (try simp at hq); omega)); (try have hm1 : w.heap.size + 1 < w1.heap.size := by (have hq := hb1.size; (try simp at hq); omega)); (try have hn1 : w.heap.size + 1 + 1 < w1.heap.size := by (have hq := hb1.size; (try simp at hq); omega)); (try have hp1 : b < w1.heap.size := by (have hq := hb1.size; (try simp at hq); omega)); (try have ho1 : b' < w1.heap.size := by (have hq := hb1.size; (try simp at hq); omega))) | (go_at_call 192; refine (distance_c _ _ (by omega) (by omega) (by omega) (by omega) _).mono ?_; rintro e w' ⟨rfl, rfl⟩))
  go_wp2
  go_ret
  exact ⟨rfl, by repeat (with_reducible first | exact Below.refl _ _ | assumption | refine Bel.alloc ?_ _ | refine Bel.step (by assumption) ?_ | refine Below.drew ?_ | refine Bel.drewN ?_ _ | refine Below.setCell ?_ (by first | exact Nat.le_refl _ | omega | (simp; done) | (simp; omega)) _)⟩
/-- The first place below k at which f is least. -/
def bst (f : Int → Int) : Nat → Nat
  | 0 => 0
  | k + 1 => if f k < f (bst f k) then k else bst f k
theorem bst_lt (f : Int → Int) (k : Nat) : bst f k ≤ k := by
  induction k with
  | zero => exact Nat.le_refl _
  | succ k ih => unfold bst; split <;> omega
theorem bst_yes (f : Int → Int) (k : Nat) (h : f k < f (bst f k)) : bst f (k + 1) = k := by rw [bst, if_pos h]
theorem bst_no (f : Int → Int) (k : Nat) (h : f (bst f k) ≤ f k) : bst f (k + 1) = bst f k := by rw [bst, if_neg (by omega)]
def corrV (s z n : Int) : Int := if isModel s z && inB n 0 100000 then (bst (fun t => Er s z t n) 100001 : Nat) else 0
def corrE (s z n : Int) : Int := if isModel s z then (if inB n 0 100000 then 0 else 2) else 1
theorem CorrectPlace_I (s z n : Int) (w : World) :
    Calls Try.prog 44 #[.agg #[.int .i64 s, .int .i64 z], .int .i64 n] w fun e w' => e = .returned (.tuple #[.int .i64 (corrV s z n), .int .i64 (corrE s z n)]) ∧ Below w.heap.size w w' := by
  by_cases c1 : isModel s z = true
  · obtain ⟨a1, a2, a3, a4⟩ := isModel_iff c1
    by_cases c2 : inB n 0 100000 = true
    · obtain ⟨b1, b2⟩ := inB_iff.1 c2
      have HV := Lib.hid (show corrV s z n = (bst (fun t => Er s z t n) 100001 : Nat) by simp [corrV, c1, c2])
      have HE := Lib.hid (show corrE s z n = 0 by simp [corrE, c1, c2])
      go_enter Try.func44, Try.ntmps44
      go_wp2_with (first | (go_at_call 58; refine (isModel_I _ _ _).mono ?_; rintro e w1 ⟨rfl, hb1⟩; obtain ⟨hc1, hf1, hz1⟩ := bel hb1; (try simp only [World.size_drew, World.cell?_drew, World.frozen?_drew] at hc1 hf1 hz1); (try simp only [World.heap_drewN, World.cell?_drewN, World.frozen?_drewN] at hc1 hf1 hz1); (try have hl1 : w.heap.size < w1.heap.size := by (have hq := hb1.size; (try simp at hq); omega)); (try have hm1 : w.heap.size + 1 < w1.heap.size := by (have hq := hb1.size; (try simp at hq); omega)); (try have hn1 : w.heap.size + 1 + 1 < w1.heap.size := by (have hq := hb1.size; (try simp at hq); omega)); (try have hp1 : b < w1.heap.size := by (have hq := hb1.size; (try simp at hq); omega)); (try have ho1 : b' < w1.heap.size := by (have hq := hb1.size; (try simp at hq); omega))) | (go_at_call 127; refine (isOnRule_c _ _).mono ?_; rintro e w' ⟨rfl, rfl⟩))
      go_loopw [6, 7] (fun b t wr => ∃ k : Nat, k ≤ 100001 ∧ t = .int .i64 k ∧ b = .int .i64 (bst (fun t => Er s z t n) k : Nat) ∧ Blk wr w.heap.size 73 #[.int .i64 s, .int .i64 z] ∧ Below w.heap.size w wr) (fun _ t _ => 100001 - (intOf t).toNat)
      case atStart => exact ⟨0, by omega, rfl, rfl, Blk.step hb1 (Blk.new _ _ _), by repeat (with_reducible first | exact Below.refl _ _ | assumption | refine Bel.alloc ?_ _ | refine Bel.step (by assumption) ?_ | refine Below.drew ?_ | refine Bel.drewN ?_ _ | refine Below.setCell ?_ (by first | exact Nat.le_refl _ | omega | (simp; done) | (simp; omega)) _)⟩
      case round =>
        obtain ⟨k, hk, rfl, rfl, hB, hbel⟩ := hrel
        have k0 : wr.cell? ⟨w.heap.size, 0, none⟩ = some (.int .i64 s) := by rw [hB.cell]; rfl
        have k1 : wr.cell? ⟨w.heap.size, 1, none⟩ = some (.int .i64 z) := by rw [hB.cell]; rfl
        have klt := hB.lt
        have HB := Lib.hid hB
        clear hB c1 c2 hb1 hc1 hf1 hz1
        by_cases hlt : k < 100001
        · have hq := bst_lt (fun t => Er s z t n) k
          have Y := Lib.hid (bst_yes (fun t => Er s z t n) k)
          have N := Lib.hid (bst_no (fun t => Er s z t n) k)
          generalize bst (fun t => Er s z t n) k = q at *
          by_cases he : Er s z k n < Er s z q n
          · go_wp2
            go_region_held3 (fun w' => w'.cell? ⟨w.heap.size, 0, none⟩ = some (.int .i64 s) ∧ w'.cell? ⟨w.heap.size, 1, none⟩ = some (.int .i64 z)) (simp [go_sem, *])
                (first | (go_at_call 128; refine (errorOf_c _ _ _ _ (by omega) (by omega) (by omega) (by omega) (by omega) (by omega) (by omega) (by omega) _).mono ?_; rintro e w1 ⟨rfl, hb1⟩; obtain ⟨hc1, hf1, hz1⟩ := bel hb1; (try simp only [World.size_drew, World.cell?_drew, World.frozen?_drew] at hc1 hf1 hz1); (try simp only [World.heap_drewN, World.cell?_drewN, World.frozen?_drewN] at hc1 hf1 hz1); (try have hl1 : w.heap.size < w1.heap.size := by (have hq := hb1.size; (try simp at hq); omega)); (try have hm1 : w.heap.size + 1 < w1.heap.size := by (have hq := hb1.size; (try simp at hq); omega)); (try have hn1 : w.heap.size + 1 + 1 < w1.heap.size := by (have hq := hb1.size; (try simp at hq); omega)); (try have hp1 : b < w1.heap.size := by (have hq := hb1.size; (try simp at hq); omega)); (try have ho1 : b' < w1.heap.size := by (have hq := hb1.size; (try simp at hq); omega))))
            all_goals
              go_wp2
              go_roundw
              case rel => exact ⟨k + 1, by omega, by go_num, by rw [Y.out he], (by repeat (with_reducible first | exact HB.out | assumption | refine Blk.alloc _ ?_ | refine Blk.step (by assumption) ?_ | refine Blk.drew ?_ | refine Blk.drewN _ ?_)), by repeat (with_reducible first | exact Below.refl _ _ | assumption | refine Bel.alloc ?_ _ | refine Bel.step (by assumption) ?_ | refine Below.drew ?_ | refine Bel.drewN ?_ _ | refine Below.setCell ?_ (by first | exact Nat.le_refl _ | omega | (simp; done) | (simp; omega)) _)⟩
              case measure => simp [intOf]; omega
          · go_wp2
            go_region_held3 (fun w' => w'.cell? ⟨w.heap.size, 0, none⟩ = some (.int .i64 s) ∧ w'.cell? ⟨w.heap.size, 1, none⟩ = some (.int .i64 z)) (simp [go_sem, *])
                (first | (go_at_call 128; refine (errorOf_c _ _ _ _ (by omega) (by omega) (by omega) (by omega) (by omega) (by omega) (by omega) (by omega) _).mono ?_; rintro e w1 ⟨rfl, hb1⟩; obtain ⟨hc1, hf1, hz1⟩ := bel hb1; (try simp only [World.size_drew, World.cell?_drew, World.frozen?_drew] at hc1 hf1 hz1); (try simp only [World.heap_drewN, World.cell?_drewN, World.frozen?_drewN] at hc1 hf1 hz1); (try have hl1 : w.heap.size < w1.heap.size := by (have hq := hb1.size; (try simp at hq); omega)); (try have hm1 : w.heap.size + 1 < w1.heap.size := by (have hq := hb1.size; (try simp at hq); omega)); (try have hn1 : w.heap.size + 1 + 1 < w1.heap.size := by (have hq := hb1.size; (try simp at hq); omega)); (try have hp1 : b < w1.heap.size := by (have hq := hb1.size; (try simp at hq); omega)); (try have ho1 : b' < w1.heap.size := by (have hq := hb1.size; (try simp at hq); omega))))
            all_goals
              go_wp2
              go_roundw
              case rel => exact ⟨k + 1, by omega, by go_num, by rw [N.out (by omega)], (by repeat (with_reducible first | exact HB.out | assumption | refine Blk.alloc _ ?_ | refine Blk.step (by assumption) ?_ | refine Blk.drew ?_ | refine Blk.drewN _ ?_)), by repeat (with_reducible first | exact Below.refl _ _ | assumption | refine Bel.alloc ?_ _ | refine Bel.step (by assumption) ?_ | refine Below.drew ?_ | refine Bel.drewN ?_ _ | refine Below.setCell ?_ (by first | exact Nat.le_refl _ | omega | (simp; done) | (simp; omega)) _)⟩
              case measure => simp [intOf]; omega
        · go_wp2
          go_ret2
          have : k = 100001 := by omega
          subst this
          exact ⟨by rw [HV.out, HE.out]; rfl, hbel⟩
    · have c2' : inB n 0 100000 = false := by simpa using c2
      clear c2
      go_enter Try.func44, Try.ntmps44
      go_wp2_with (first | (go_at_call 58; refine (isModel_I _ _ _).mono ?_; rintro e w1 ⟨rfl, hb1⟩; obtain ⟨hc1, hf1, hz1⟩ := bel hb1; (try simp only [World.size_drew, World.cell?_drew, World.frozen?_drew] at hc1 hf1 hz1); (try simp only [World.heap_drewN, World.cell?_drewN, World.frozen?_drewN] at hc1 hf1 hz1); (try have hl1 : w.heap.size < w1.heap.size := by (have hq := hb1.size; (try simp at hq); omega)); (try have hm1 : w.heap.size + 1 < w1.heap.size := by (have hq := hb1.size; (try simp at hq); omega)); (try have hn1 : w.heap.size + 1 + 1 < w1.heap.size := by (have hq := hb1.size; (try simp at hq); omega)); (try have hp1 : b < w1.heap.size := by (have hq := hb1.size; (try simp at hq); omega)); (try have ho1 : b' < w1.heap.size := by (have hq := hb1.size; (try simp at hq); omega))) | (go_at_call 127; refine (isOnRule_c _ _).mono ?_; rintro e w' ⟨rfl, rfl⟩))
      go_ret2
      exact ⟨by simp [corrV, corrE, c1, c2'], by repeat (with_reducible first | exact Below.refl _ _ | assumption | refine Bel.alloc ?_ _ | refine Bel.step (by assumption) ?_ | refine Below.drew ?_ | refine Bel.drewN ?_ _ | refine Below.setCell ?_ (by first | exact Nat.le_refl _ | omega | (simp; done) | (simp; omega)) _)⟩
  · have c1' : isModel s z = false := by simpa using c1
    clear c1
    go_enter Try.func44, Try.ntmps44
    go_wp2_with (first | (go_at_call 58; refine (isModel_I _ _ _).mono ?_; rintro e w1 ⟨rfl, hb1⟩; obtain ⟨hc1, hf1, hz1⟩ := bel hb1; (try simp only [World.size_drew, World.cell?_drew, World.frozen?_drew] at hc1 hf1 hz1); (try simp only [World.heap_drewN, World.cell?_drewN, World.frozen?_drewN] at hc1 hf1 hz1); (try have hl1 : w.heap.size < w1.heap.size := by (have hq := hb1.size; (try simp at hq); omega)); (try have hm1 : w.heap.size + 1 < w1.heap.size := by (have hq := hb1.size; (try simp at hq); omega)); (try have hn1 : w.heap.size + 1 + 1 < w1.heap.size := by (have hq := hb1.size; (try simp at hq); omega)); (try have hp1 : b < w1.heap.size := by (have hq := hb1.size; (try simp at hq); omega)); (try have ho1 : b' < w1.heap.size := by (have hq := hb1.size; (try simp at hq); omega))))
    go_ret2
    exact ⟨by simp [corrV, corrE, c1'], by repeat (with_reducible first | exact Below.refl _ _ | assumption | refine Bel.alloc ?_ _ | refine Bel.step (by assumption) ?_ | refine Below.drew ?_ | refine Bel.drewN ?_ _ | refine Below.setCell ?_ (by first | exact Nat.le_refl _ | omega | (simp; done) | (simp; omega)) _)⟩
theorem Sn_step (s z t u : Int) (h3 : -100000 ≤ z) (h : t ≤ u) : Sn s z t ≤ Sn s z u ∧ (t + 2 ≤ u → Sn s z t < Sn s z u) := by
  have e : (u - t) * -100000 ≤ (u - t) * z := Int.mul_le_mul_of_nonneg_left h3 (by omega)
  rw [Int.sub_mul u t z] at e
  unfold Sn Nr
  rw [Fl_pos _ _ (by omega), Fl_pos _ _ (by omega)]
  constructor
  · omega
  · intro h2; omega
theorem bst_char (f : Int → Int) (N : Nat) (hN : 0 < N) : bst f N < N ∧ (∀ u : Nat, u < N → f (bst f N) ≤ f u) ∧ ∀ u : Nat, u < bst f N → f (bst f N) < f u := by
  induction N with
  | zero => omega
  | succ k ih =>
    by_cases hk : k = 0
    · subst hk
      have e : bst f 1 = 0 := by simp [bst]
      show bst f 1 < 1 ∧ (∀ u : Nat, u < 1 → f (bst f 1) ≤ f u) ∧ ∀ u : Nat, u < bst f 1 → f (bst f 1) < f u
      rw [e]
      refine ⟨by omega, fun u hu => ?_, fun u hu => by omega⟩
      have : u = 0 := by omega
      subst this; exact Int.le_refl _
    · obtain ⟨a, b, c⟩ := ih (by omega)
      by_cases h : f k < f (bst f k)
      · rw [bst_yes f k h]
        refine ⟨by omega, fun u hu => ?_, fun u hu => ?_⟩
        · rcases Nat.lt_or_eq_of_le (Nat.le_of_lt_succ hu) with h1 | h1
          · have := b u h1; omega
          · subst h1; exact Int.le_refl _
        · have := b u hu; omega
      · rw [bst_no f k (by omega)]
        refine ⟨by omega, fun u hu => ?_, fun u hu => c u hu⟩
        rcases Nat.lt_or_eq_of_le (Nat.le_of_lt_succ hu) with h1 | h1
        · exact b u h1
        · subst h1; omega
theorem bst_uniq (f : Int → Int) (N b : Nat) (h1 : b < N) (h2 : ∀ u : Nat, u < N → f b ≤ f u) (h3 : ∀ u : Nat, u < b → f b < f u) : bst f N = b := by
  obtain ⟨a, c, d⟩ := bst_char f N (by omega)
  rcases Nat.lt_trichotomy (bst f N) b with h | h | h
  · have := h3 _ h; have := c b h1; omega
  · exact h
  · have := d _ h; have := h2 _ a; omega
/-- The search of the reference ends where the first best place is. -/
theorem corr_bst (s z n : Int) (h3 : -100000 ≤ z) (L b : Nat) (hL : L ≤ 100000) (hlow : ∀ t : Nat, t < L → Sn s z t < n) (hhigh : L = 100000 ∨ n ≤ Sn s z L)
    (hb1 : L - 4 ≤ b) (hb2 : b ≤ L) (hmin : ∀ u : Nat, L - 4 ≤ u → u ≤ L → Er s z b n ≤ Er s z u n) (hstr : ∀ u : Nat, L - 4 ≤ u → u < b → Er s z b n < Er s z u n) : bst (fun t => Er s z t n) 100001 = b := by
  have key : ∀ u : Nat, u < L - 4 → Er s z b n < Er s z u n := by
    intro u hu
    have h1 := (Sn_step s z u (L - 1 : Nat) h3 (by omega)).2 (by omega)
    have h2 := hlow (L - 1) (by omega)
    have h4 := hmin (L - 1) (by omega) (by omega)
    have : Er s z (L - 1 : Nat) n < Er s z u n := by unfold Er Ab; split <;> split <;> omega
    omega
  refine bst_uniq _ _ _ (by omega) (fun u hu => ?_) (fun u hu => ?_)
  · show Er s z b n ≤ Er s z u n
    by_cases h5 : u < L - 4
    · exact Int.le_of_lt (key u h5)
    · by_cases h6 : u ≤ L
      · exact hmin u (by omega) h6
      · rcases hhigh with h7 | h7
        · omega
        · have h1 := (Sn_step s z L u h3 (by omega)).1
          have h4 := hmin L (by omega) (by omega)
          have : Er s z L n ≤ Er s z u n := by unfold Er Ab; split <;> split <;> omega
          omega
  · show Er s z b n < Er s z u n
    by_cases h5 : u < L - 4
    · exact key u h5
    · exact hstr u (by omega) hu
/-- What the reference's second loop knows: the first best place from a on, below t. -/
def Win (f : Int → Int) (a t : Nat) (b : Int) (l : Int) : Prop :=
  (t = a ∧ b = 0 ∧ l = -1) ∨ (a < t ∧ ∃ q : Nat, b = q ∧ l = f q ∧ a ≤ q ∧ q < t ∧ (∀ u : Nat, a ≤ u → u < t → f q ≤ f u) ∧ ∀ u : Nat, a ≤ u → u < q → f q < f u)
theorem Win.take {f : Int → Int} {a t : Nat} {b l : Int} (h : Win f a t b l) (hat : a ≤ t) (hl : l < 0 ∨ f t < l) (hf : ∀ u : Nat, 0 ≤ f u) : Win f a (t + 1) t (f t) := by
  refine .inr ⟨by omega, t, rfl, rfl, hat, by omega, fun u h1 h2 => ?_, fun u h1 h2 => ?_⟩
  · rcases h with ⟨rfl, _, _⟩ | ⟨h3, q, _, hq, h4, h5, h6, h7⟩
    · have : u = t := by omega
      subst this; exact Int.le_refl _
    · by_cases e : u = t
      · subst e; exact Int.le_refl _
      · have := h6 u h1 (by omega)
        rcases hl with hl | hl
        · have := hf q; omega
        · omega
  · rcases h with ⟨rfl, _, _⟩ | ⟨h3, q, _, hq, h4, h5, h6, h7⟩
    · omega
    · have := h6 u h1 (by omega)
      rcases hl with hl | hl
      · have := hf q; omega
      · omega
theorem Win.leave {f : Int → Int} {a t : Nat} {b l : Int} (h : Win f a t b l) (hl : ¬ l < 0) (hf : l ≤ f t) : Win f a (t + 1) b l := by
  rcases h with ⟨_, _, h⟩ | ⟨h3, q, hb, hq, h4, h5, h6, h7⟩
  · omega
  · refine .inr ⟨by omega, q, hb, hq, h4, by omega, fun u h1 h2 => ?_, h7⟩
    by_cases e : u = t
    · subst e; omega
    · exact h6 u h1 (by omega)
set_option maxHeartbeats 800000 in
theorem CorrectPlace_S (s z n : Int) (w : World) :
    Calls Try.prog 45 #[.agg #[.int .i64 s, .int .i64 z], .int .i64 n] w fun e w' => e = .returned (.tuple #[.int .i64 (corrV s z n), .int .i64 (corrE s z n)]) ∧ Below w.heap.size w w' := by
  by_cases c1 : isModel s z = true
  · obtain ⟨a1, a2, a3, a4⟩ := isModel_iff c1
    by_cases c2 : inB n 0 100000 = true
    · obtain ⟨b1, b2⟩ := inB_iff.1 c2
      have HV := Lib.hid (show corrV s z n = (bst (fun t => Er s z t n) 100001 : Nat) by simp [corrV, c1, c2])
      have HE := Lib.hid (show corrE s z n = 0 by simp [corrE, c1, c2])
      go_enter Try.func45, Try.ntmps45
      go_wp2_with (first | (go_at_call 129; refine (isModel_S _ _ _).mono ?_; rintro e w1 ⟨rfl, hb1⟩; obtain ⟨hc1, hf1, hz1⟩ := bel hb1; (try simp only [World.size_drew, World.cell?_drew, World.frozen?_drew] at hc1 hf1 hz1); (try simp only [World.heap_drewN, World.cell?_drewN, World.frozen?_drewN] at hc1 hf1 hz1); (try have hl1 : w.heap.size < w1.heap.size := by (have hq := hb1.size; (try simp at hq); omega)); (try have hm1 : w.heap.size + 1 < w1.heap.size := by (have hq := hb1.size; (try simp at hq); omega)); (try have hn1 : w.heap.size + 1 + 1 < w1.heap.size := by (have hq := hb1.size; (try simp at hq); omega)); (try have hp1 : b < w1.heap.size := by (have hq := hb1.size; (try simp at hq); omega)); (try have ho1 : b' < w1.heap.size := by (have hq := hb1.size; (try simp at hq); omega))) | (go_at_call 130; refine (l28Place_c _ _).mono ?_; rintro e w' ⟨rfl, rfl⟩))
      go_loopw [6, 7, 8] (fun lo hi _ wr => ∃ p q : Nat, lo = .int .i64 p ∧ hi = .int .i64 q ∧ p ≤ q ∧ q ≤ 100000 ∧ Hid (∀ t : Nat, t < p → Sn s z t < n) ∧ Hid (q = 100000 ∨ n ≤ Sn s z q) ∧ Blk wr w.heap.size 73 #[.int .i64 s, .int .i64 z] ∧ Below w.heap.size w wr) (fun lo hi _ _ => (intOf hi - intOf lo).toNat)
      case atStart => exact ⟨0, 100000, rfl, rfl, by omega, by omega, fun t ht => absurd ht (by omega), .inl rfl, Blk.step hb1 (Blk.new _ _ _), by repeat (with_reducible first | exact Below.refl _ _ | assumption | refine Bel.alloc ?_ _ | refine Bel.step (by assumption) ?_ | refine Below.drew ?_ | refine Bel.drewN ?_ _ | refine Below.setCell ?_ (by first | exact Nat.le_refl _ | omega | (simp; done) | (simp; omega)) _)⟩
      case round =>
        obtain ⟨p, q, rfl, rfl, hpq, hq, H1, H2, hB, hbel⟩ := hrel
        have k0 : wr.cell? ⟨w.heap.size, 0, none⟩ = some (.int .i64 s) := by rw [hB.cell]; rfl
        have k1 : wr.cell? ⟨w.heap.size, 1, none⟩ = some (.int .i64 z) := by rw [hB.cell]; rfl
        have klt := hB.lt
        have HB := Lib.hid hB
        clear hB c1 c2 hb1 hc1 hf1 hz1
        by_cases hlt : p < q
        · have em : ((p : Int) + q) / 2 = ((p + q) / 2 : Nat) := by omega
          have EM := Lib.hid em
          clear em
          by_cases he : n ≤ Sn s z (((p : Int) + q) / 2)
          · go_wp2_with (first | (go_at_call 131; refine (seen_l01Nearest_c _ _ _ (by omega) (by omega) (by omega) (by omega) (by omega) (by omega) _).mono ?_; rintro e w1 ⟨rfl, hb1⟩; obtain ⟨hc1, hf1, hz1⟩ := bel hb1; (try simp only [World.size_drew, World.cell?_drew, World.frozen?_drew] at hc1 hf1 hz1); (try simp only [World.heap_drewN, World.cell?_drewN, World.frozen?_drewN] at hc1 hf1 hz1); (try have hl1 : w.heap.size < w1.heap.size := by (have hq := hb1.size; (try simp at hq); omega)); (try have hm1 : w.heap.size + 1 < w1.heap.size := by (have hq := hb1.size; (try simp at hq); omega)); (try have hn1 : w.heap.size + 1 + 1 < w1.heap.size := by (have hq := hb1.size; (try simp at hq); omega)); (try have hp1 : b < w1.heap.size := by (have hq := hb1.size; (try simp at hq); omega)); (try have ho1 : b' < w1.heap.size := by (have hq := hb1.size; (try simp at hq); omega))))
            go_roundw
            case rel => exact ⟨p, (p + q) / 2, rfl, by rw [← EM.out], by omega, by omega, H1, .inr (by rw [← EM.out]; exact he), (by repeat (with_reducible first | exact HB.out | assumption | refine Blk.alloc _ ?_ | refine Blk.step (by assumption) ?_ | refine Blk.drew ?_ | refine Blk.drewN _ ?_)), by repeat (with_reducible first | exact Below.refl _ _ | assumption | refine Bel.alloc ?_ _ | refine Bel.step (by assumption) ?_ | refine Below.drew ?_ | refine Bel.drewN ?_ _ | refine Below.setCell ?_ (by first | exact Nat.le_refl _ | omega | (simp; done) | (simp; omega)) _)⟩
            case measure => simp [intOf]; omega
          · go_wp2_with (first | (go_at_call 131; refine (seen_l01Nearest_c _ _ _ (by omega) (by omega) (by omega) (by omega) (by omega) (by omega) _).mono ?_; rintro e w1 ⟨rfl, hb1⟩; obtain ⟨hc1, hf1, hz1⟩ := bel hb1; (try simp only [World.size_drew, World.cell?_drew, World.frozen?_drew] at hc1 hf1 hz1); (try simp only [World.heap_drewN, World.cell?_drewN, World.frozen?_drewN] at hc1 hf1 hz1); (try have hl1 : w.heap.size < w1.heap.size := by (have hq := hb1.size; (try simp at hq); omega)); (try have hm1 : w.heap.size + 1 < w1.heap.size := by (have hq := hb1.size; (try simp at hq); omega)); (try have hn1 : w.heap.size + 1 + 1 < w1.heap.size := by (have hq := hb1.size; (try simp at hq); omega)); (try have hp1 : b < w1.heap.size := by (have hq := hb1.size; (try simp at hq); omega)); (try have ho1 : b' < w1.heap.size := by (have hq := hb1.size; (try simp at hq); omega))))
            go_roundw
            case rel =>
              refine ⟨(p + q) / 2 + 1, q, by rw [EM.out]; go_num, rfl, by omega, hq, fun t ht => ?_, H2, (by repeat (with_reducible first | exact HB.out | assumption | refine Blk.alloc _ ?_ | refine Blk.step (by assumption) ?_ | refine Blk.drew ?_ | refine Blk.drewN _ ?_)), by repeat (with_reducible first | exact Below.refl _ _ | assumption | refine Bel.alloc ?_ _ | refine Bel.step (by assumption) ?_ | refine Below.drew ?_ | refine Bel.drewN ?_ _ | refine Below.setCell ?_ (by first | exact Nat.le_refl _ | omega | (simp; done) | (simp; omega)) _)⟩
              have h1 := (Sn_step s z t (((p : Int) + q) / 2) (by omega) (by rw [EM.out]; omega)).1
              omega
            case measure => simp [intOf]; omega
        · obtain rfl : p = q := by omega
          go_wp2
          all_goals
            go_loopw [9, 10, 11, 12] (fun b l t _ wr => ∃ (k : Nat) (bb ll : Int), t = .int .i64 k ∧ b = .int .i64 bb ∧ l = .int .i64 ll ∧ p - 4 ≤ k ∧ k ≤ p + 1 ∧ Hid (Win (fun t => Er s z t n) (p - 4) k bb ll) ∧ Blk wr w.heap.size 73 #[.int .i64 s, .int .i64 z] ∧ Below w.heap.size w wr) (fun _ _ t _ _ => p + 1 - (intOf t).toNat)
            case atStart => exact ⟨p - 4, 0, -1, congrArg (Value.int .i64) (by omega), rfl, rfl, Nat.le_refl _, by omega, .inl ⟨rfl, rfl, rfl⟩, (by repeat (with_reducible first | exact HB.out | assumption | refine Blk.alloc _ ?_ | refine Blk.step (by assumption) ?_ | refine Blk.drew ?_ | refine Blk.drewN _ ?_)), by repeat (with_reducible first | exact Below.refl _ _ | assumption | refine Bel.alloc ?_ _ | refine Bel.step (by assumption) ?_ | refine Below.drew ?_ | refine Bel.drewN ?_ _ | refine Below.setCell ?_ (by first | exact Nat.le_refl _ | omega | (simp; done) | (simp; omega)) _)⟩
            case round =>
              obtain ⟨k, bb, ll, rfl, rfl, rfl, hk1, hk2, HW, hB, hbel⟩ := hrel
              clear k0 k1 klt HB
              have k0 : wr.cell? ⟨w.heap.size, 0, none⟩ = some (.int .i64 s) := by rw [hB.cell]; rfl
              have k1 : wr.cell? ⟨w.heap.size, 1, none⟩ = some (.int .i64 z) := by rw [hB.cell]; rfl
              have klt := hB.lt
              have HB := Lib.hid hB
              clear hB
              by_cases hkt : k ≤ p
              · by_cases hn : ll < 0
                · go_wp2_with (first | (go_at_call 132; refine (l28Error_c _ _ _ _ (by omega) (by omega) (by omega) (by omega) (by omega) (by omega) (by omega) (by omega) _).mono ?_; rintro e w1 ⟨rfl, hb1⟩; obtain ⟨hc1, hf1, hz1⟩ := bel hb1; (try simp only [World.size_drew, World.cell?_drew, World.frozen?_drew] at hc1 hf1 hz1); (try simp only [World.heap_drewN, World.cell?_drewN, World.frozen?_drewN] at hc1 hf1 hz1); (try have hl1 : w.heap.size < w1.heap.size := by (have hq := hb1.size; (try simp at hq); omega)); (try have hm1 : w.heap.size + 1 < w1.heap.size := by (have hq := hb1.size; (try simp at hq); omega)); (try have hn1 : w.heap.size + 1 + 1 < w1.heap.size := by (have hq := hb1.size; (try simp at hq); omega)); (try have hp1 : b < w1.heap.size := by (have hq := hb1.size; (try simp at hq); omega)); (try have ho1 : b' < w1.heap.size := by (have hq := hb1.size; (try simp at hq); omega))))
                  go_roundw
                  case rel => exact ⟨k + 1, k, _, by go_num, rfl, rfl, by omega, by omega, HW.out.take hk1 (.inl hn) (fun u => Ab_nonneg _), (by repeat (with_reducible first | exact HB.out | assumption | refine Blk.alloc _ ?_ | refine Blk.step (by assumption) ?_ | refine Blk.drew ?_ | refine Blk.drewN _ ?_)), by repeat (with_reducible first | exact Below.refl _ _ | assumption | refine Bel.alloc ?_ _ | refine Bel.step (by assumption) ?_ | refine Below.drew ?_ | refine Bel.drewN ?_ _ | refine Below.setCell ?_ (by first | exact Nat.le_refl _ | omega | (simp; done) | (simp; omega)) _)⟩
                  case measure => simp [intOf]; omega
                · by_cases he : Er s z k n < ll
                  · go_wp2_with (first | (go_at_call 132; refine (l28Error_c _ _ _ _ (by omega) (by omega) (by omega) (by omega) (by omega) (by omega) (by omega) (by omega) _).mono ?_; rintro e w1 ⟨rfl, hb1⟩; obtain ⟨hc1, hf1, hz1⟩ := bel hb1; (try simp only [World.size_drew, World.cell?_drew, World.frozen?_drew] at hc1 hf1 hz1); (try simp only [World.heap_drewN, World.cell?_drewN, World.frozen?_drewN] at hc1 hf1 hz1); (try have hl1 : w.heap.size < w1.heap.size := by (have hq := hb1.size; (try simp at hq); omega)); (try have hm1 : w.heap.size + 1 < w1.heap.size := by (have hq := hb1.size; (try simp at hq); omega)); (try have hn1 : w.heap.size + 1 + 1 < w1.heap.size := by (have hq := hb1.size; (try simp at hq); omega)); (try have hp1 : b < w1.heap.size := by (have hq := hb1.size; (try simp at hq); omega)); (try have ho1 : b' < w1.heap.size := by (have hq := hb1.size; (try simp at hq); omega))))
                    go_roundw
                    case rel => exact ⟨k + 1, k, _, by go_num, rfl, rfl, by omega, by omega, HW.out.take hk1 (.inr he) (fun u => Ab_nonneg _), (by repeat (with_reducible first | exact HB.out | assumption | refine Blk.alloc _ ?_ | refine Blk.step (by assumption) ?_ | refine Blk.drew ?_ | refine Blk.drewN _ ?_)), by repeat (with_reducible first | exact Below.refl _ _ | assumption | refine Bel.alloc ?_ _ | refine Bel.step (by assumption) ?_ | refine Below.drew ?_ | refine Bel.drewN ?_ _ | refine Below.setCell ?_ (by first | exact Nat.le_refl _ | omega | (simp; done) | (simp; omega)) _)⟩
                    case measure => simp [intOf]; omega
                  · go_wp2_with (first | (go_at_call 132; refine (l28Error_c _ _ _ _ (by omega) (by omega) (by omega) (by omega) (by omega) (by omega) (by omega) (by omega) _).mono ?_; rintro e w1 ⟨rfl, hb1⟩; obtain ⟨hc1, hf1, hz1⟩ := bel hb1; (try simp only [World.size_drew, World.cell?_drew, World.frozen?_drew] at hc1 hf1 hz1); (try simp only [World.heap_drewN, World.cell?_drewN, World.frozen?_drewN] at hc1 hf1 hz1); (try have hl1 : w.heap.size < w1.heap.size := by (have hq := hb1.size; (try simp at hq); omega)); (try have hm1 : w.heap.size + 1 < w1.heap.size := by (have hq := hb1.size; (try simp at hq); omega)); (try have hn1 : w.heap.size + 1 + 1 < w1.heap.size := by (have hq := hb1.size; (try simp at hq); omega)); (try have hp1 : b < w1.heap.size := by (have hq := hb1.size; (try simp at hq); omega)); (try have ho1 : b' < w1.heap.size := by (have hq := hb1.size; (try simp at hq); omega))))
                    go_roundw
                    case rel => exact ⟨k + 1, bb, ll, by go_num, rfl, rfl, by omega, by omega, HW.out.leave (by omega) (by omega), (by repeat (with_reducible first | exact HB.out | assumption | refine Blk.alloc _ ?_ | refine Blk.step (by assumption) ?_ | refine Blk.drew ?_ | refine Blk.drewN _ ?_)), by repeat (with_reducible first | exact Below.refl _ _ | assumption | refine Bel.alloc ?_ _ | refine Bel.step (by assumption) ?_ | refine Below.drew ?_ | refine Bel.drewN ?_ _ | refine Below.setCell ?_ (by first | exact Nat.le_refl _ | omega | (simp; done) | (simp; omega)) _)⟩
                    case measure => simp [intOf]; omega
              · go_wp2
                go_ret2
                obtain rfl : k = p + 1 := by omega
                rcases HW.out with ⟨hx, _, _⟩ | ⟨_, q, rfl, _, q1, q2, q3, q4⟩
                · omega
                · exact ⟨by rw [HV.out, HE.out, corr_bst s z n a3 p q (by omega) H1.out H2.out q1 (by omega) (fun u h1 h2 => q3 u h1 (by omega)) (fun u h1 h2 => q4 u h1 h2)]; rfl, hbel⟩
    · have c2' : inB n 0 100000 = false := by simpa using c2
      clear c2
      go_enter Try.func45, Try.ntmps45
      go_wp2_with (first | (go_at_call 129; refine (isModel_S _ _ _).mono ?_; rintro e w1 ⟨rfl, hb1⟩; obtain ⟨hc1, hf1, hz1⟩ := bel hb1; (try simp only [World.size_drew, World.cell?_drew, World.frozen?_drew] at hc1 hf1 hz1); (try simp only [World.heap_drewN, World.cell?_drewN, World.frozen?_drewN] at hc1 hf1 hz1); (try have hl1 : w.heap.size < w1.heap.size := by (have hq := hb1.size; (try simp at hq); omega)); (try have hm1 : w.heap.size + 1 < w1.heap.size := by (have hq := hb1.size; (try simp at hq); omega)); (try have hn1 : w.heap.size + 1 + 1 < w1.heap.size := by (have hq := hb1.size; (try simp at hq); omega)); (try have hp1 : b < w1.heap.size := by (have hq := hb1.size; (try simp at hq); omega)); (try have ho1 : b' < w1.heap.size := by (have hq := hb1.size; (try simp at hq); omega))) | (go_at_call 130; refine (l28Place_c _ _).mono ?_; rintro e w' ⟨rfl, rfl⟩))
      go_ret2
      exact ⟨by simp [corrV, corrE, c1, c2'], by repeat (with_reducible first | exact Below.refl _ _ | assumption | refine Bel.alloc ?_ _ | refine Bel.step (by assumption) ?_ | refine Below.drew ?_ | refine Bel.drewN ?_ _ | refine Below.setCell ?_ (by first | exact Nat.le_refl _ | omega | (simp; done) | (simp; omega)) _)⟩
  · have c1' : isModel s z = false := by simpa using c1
    clear c1
    go_enter Try.func45, Try.ntmps45
    go_wp2_with (first | (go_at_call 129; refine (isModel_S _ _ _).mono ?_; rintro e w1 ⟨rfl, hb1⟩; obtain ⟨hc1, hf1, hz1⟩ := bel hb1; (try simp only [World.size_drew, World.cell?_drew, World.frozen?_drew] at hc1 hf1 hz1); (try simp only [World.heap_drewN, World.cell?_drewN, World.frozen?_drewN] at hc1 hf1 hz1); (try have hl1 : w.heap.size < w1.heap.size := by (have hq := hb1.size; (try simp at hq); omega)); (try have hm1 : w.heap.size + 1 < w1.heap.size := by (have hq := hb1.size; (try simp at hq); omega)); (try have hn1 : w.heap.size + 1 + 1 < w1.heap.size := by (have hq := hb1.size; (try simp at hq); omega)); (try have hp1 : b < w1.heap.size := by (have hq := hb1.size; (try simp at hq); omega)); (try have ho1 : b' < w1.heap.size := by (have hq := hb1.size; (try simp at hq); omega))))
    go_ret2
    exact ⟨by simp [corrV, corrE, c1'], by repeat (with_reducible first | exact Below.refl _ _ | assumption | refine Bel.alloc ?_ _ | refine Bel.step (by assumption) ?_ | refine Below.drew ?_ | refine Bel.drewN ?_ _ | refine Below.setCell ?_ (by first | exact Nat.le_refl _ | omega | (simp; done) | (simp; omega)) _)⟩
end Go.Proofs.Ytpmcgicopogbhaa
