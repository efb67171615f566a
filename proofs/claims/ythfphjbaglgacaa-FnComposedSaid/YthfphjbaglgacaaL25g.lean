/- Chapter 25: rational points in line. Conditions: as stated at each contract. -/
import Derived.Test.YthfphjbaglgacaaProg
import Derived.Test.YthfphjbaglgacaaBase
import Derived.Test.YthfphjbaglgacaaL01
import Derived.Test.YthfphjbaglgacaaCp
import Derived.Test.YthfphjbaglgacaaL25
import Derived.Test.YthfphjbaglgacaaL25b
import Derived.WalkKit
import Derived.WalkSpells
import Derived.WalkLawsBesides
import Derived.Lib.Hide
import Derived.Deep.QuietTactic
import Derived.BigQuiet
import Derived.Deep.Draws
import Derived.Deep.RegionHeld3
namespace Go.Proofs.Ythfphjbaglgacaa
open Go.RowKit
set_option linter.unusedVariables false
def smlB (x y z : Int) : Bool := inB x (-1000000) 1000000 && inB y (-1000000) 1000000 && decide (z ≤ 1000000)
def smlB9 (x y z : Int) : Bool := inB x (-1000000000) 1000000000 && inB y (-1000000000) 1000000000 && decide (z ≤ 1000000000)
def rats9 (a b c d e f g h i : Int) : Bool := ratB a b c && ratB d e f && ratB g h i
def smls9 (a b c d e f g h i : Int) : Bool := smlB a b c && smlB d e f && smlB g h i
def rilC (a b c d e f g h i : Int) : Int := if rats9 a b c d e f g h i then (if smls9 a b c d e f g h i then 0 else 3) else 1
def rilV (a b c d e f g h i : Int) : Bool := rats9 a b c d e f g h i && smls9 a b c d e f g h i && decide (detV [a, b, c, d, e, f, g, h, i] = 0)
theorem ril_cases (a b c d e f g h i : Int) :
    (ratB a b c = false ∧ Hid (rilC a b c d e f g h i = 1 ∧ rilV a b c d e f g h i = false)) ∨
    (ratB a b c = true ∧ ratB d e f = false ∧ Hid (rilC a b c d e f g h i = 1 ∧ rilV a b c d e f g h i = false)) ∨
    (ratB a b c = true ∧ ratB d e f = true ∧ ratB g h i = false ∧ Hid (rilC a b c d e f g h i = 1 ∧ rilV a b c d e f g h i = false)) ∨
    (ratB a b c = true ∧ ratB d e f = true ∧ ratB g h i = true ∧ smlB a b c = false ∧ Hid (rilC a b c d e f g h i = 3 ∧ rilV a b c d e f g h i = false)) ∨
    (ratB a b c = true ∧ ratB d e f = true ∧ ratB g h i = true ∧ smlB a b c = true ∧ smlB d e f = false ∧ Hid (rilC a b c d e f g h i = 3 ∧ rilV a b c d e f g h i = false)) ∨
    (ratB a b c = true ∧ ratB d e f = true ∧ ratB g h i = true ∧ smlB a b c = true ∧ smlB d e f = true ∧ smlB g h i = false ∧ Hid (rilC a b c d e f g h i = 3 ∧ rilV a b c d e f g h i = false)) ∨
    (ratB a b c = true ∧ ratB d e f = true ∧ ratB g h i = true ∧ smlB a b c = true ∧ smlB d e f = true ∧ smlB g h i = true ∧ Hid (rilC a b c d e f g h i = 0 ∧ rilV a b c d e f g h i = decide (detV [a, b, c, d, e, f, g, h, i] = 0))) := by
  unfold Hid rilC rilV rats9 smls9
  cases ratB a b c <;> cases ratB d e f <;> cases ratB g h i <;> cases smlB a b c <;> cases smlB d e f <;> cases smlB g h i <;> simp
theorem ratB_pos {x y z : Int} (h : ratB x y z = true) : 1 ≤ z := by
  simp only [ratB, Bool.and_eq_true] at h
  exact (inB_iff.1 h.1.2).1
theorem noBig_sml {x y z : Int} (h : ratB x y z = true) : (noBig x || (noBig y || noBig z)) = !smlB x y z := by
  have hz := ratB_pos h
  rw [Bool.eq_iff_iff]
  simp [noBig, smlB, inB]
  omega
theorem any9 {a b c d e f g h i : Int} (h1 : ratB a b c = true) (h2 : ratB d e f = true) (h3 : ratB g h i = true) : [a, b, c, d, e, f, g, h, i].any noBig = !smls9 a b c d e f g h i := by
  have e1 := noBig_sml h1
  have e2 := noBig_sml h2
  have e3 := noBig_sml h3
  unfold smls9
  rw [Bool.not_and, Bool.not_and, ← e1, ← e2, ← e3]
  simp [List.any_cons, Bool.or_assoc]
theorem sml_bd {x y z : Int} (h0 : ratB x y z = true) (h : smlB x y z = true) : (-1000000 ≤ x ∧ x ≤ 1000000) ∧ (-1000000 ≤ y ∧ y ≤ 1000000) ∧ -1000000 ≤ z ∧ z ≤ 1000000 := by
  have hz := ratB_pos h0
  simp only [smlB, Bool.and_eq_true, decide_eq_true_eq] at h
  have a := inB_iff.1 h.1.1
  have b := inB_iff.1 h.1.2
  omega
theorem bd9 {a b c d e f g h i : Int} (h1 : ratB a b c = true) (h2 : ratB d e f = true) (h3 : ratB g h i = true) (k1 : smlB a b c = true) (k2 : smlB d e f = true) (k3 : smlB g h i = true) : ∀ j, -1000000 ≤ [a, b, c, d, e, f, g, h, i].getD j 0 ∧ [a, b, c, d, e, f, g, h, i].getD j 0 ≤ 1000000 := by
  obtain ⟨a1, a2, a3⟩ := sml_bd h1 k1
  obtain ⟨b1, b2, b3⟩ := sml_bd h2 k2
  obtain ⟨c1, c2, c3⟩ := sml_bd h3 k3
  intro j
  match j with
  | 0 => exact a1
  | 1 => exact a2
  | 2 => exact a3
  | 3 => exact b1
  | 4 => exact b2
  | 5 => exact b3
  | 6 => exact c1
  | 7 => exact c2
  | 8 => exact c3
  | n + 9 => simp
theorem Ints.made (w : World) (T : TypeId) (zs : List Int) : Ints (w.alloc (.cells (icells zs) T)) (some ⟨w.heap.size, 0, none⟩) zs := (Blk.new w T (icells zs)).ints
theorem l25Small_c (x y z most : Int) (hm1 : 0 ≤ most) (hm2 : most ≤ 1000000000000) (w : World) :
    Calls Try.prog 93 #[.agg #[.int .i64 x, .int .i64 y, .int .i64 z], .int .i64 most] w fun e w' => e = .returned (.bool (inB x (-most) most && inB y (-most) most && decide (z ≤ most))) ∧ Below w.heap.size w w' := by
  by_cases h1 : inB x (-most) most = true
  · by_cases h2 : inB y (-most) most = true
    · go_enter Try.func93, Try.ntmps93
      go_wp2_with (first | (go_at_call 78; refine (l01In_c _ _ _ _).mono ?_; rintro e w' ⟨rfl, rfl⟩))
      go_ret
      exact ⟨ret_bool (by simp [h1, h2]), by repeat (with_reducible first | exact Below.refl _ _ | assumption | refine Bel.alloc ?_ _ | refine Bel.step (by assumption) ?_ | refine Below.drew ?_ | refine Bel.drewN ?_ _ | refine Below.setCell ?_ (by first | exact Nat.le_refl _ | omega | (simp; done) | (simp; omega)) _)⟩
    · have h2' : inB y (-most) most = false := by simpa using h2
      clear h2
      go_enter Try.func93, Try.ntmps93
      go_wp2_with (first | (go_at_call 78; refine (l01In_c _ _ _ _).mono ?_; rintro e w' ⟨rfl, rfl⟩))
      go_ret
      exact ⟨ret_bool (by simp [h2']), by repeat (with_reducible first | exact Below.refl _ _ | assumption | refine Bel.alloc ?_ _ | refine Bel.step (by assumption) ?_ | refine Below.drew ?_ | refine Bel.drewN ?_ _ | refine Below.setCell ?_ (by first | exact Nat.le_refl _ | omega | (simp; done) | (simp; omega)) _)⟩
  · have h1' : inB x (-most) most = false := by simpa using h1
    clear h1
    go_enter Try.func93, Try.ntmps93
    go_wp2_with (first | (go_at_call 78; refine (l01In_c _ _ _ _).mono ?_; rintro e w' ⟨rfl, rfl⟩))
    go_ret
    exact ⟨ret_bool (by simp [h1']), by repeat (with_reducible first | exact Below.refl _ _ | assumption | refine Bel.alloc ?_ _ | refine Bel.step (by assumption) ?_ | refine Below.drew ?_ | refine Bel.drewN ?_ _ | refine Below.setCell ?_ (by first | exact Nat.le_refl _ | omega | (simp; done) | (simp; omega)) _)⟩
theorem l25Small6_c (x y z : Int) (w : World) :
    Calls Try.prog 93 #[.agg #[.int .i64 x, .int .i64 y, .int .i64 z], .int .i64 1000000] w fun e w' => e = .returned (.bool (smlB x y z)) ∧ Below w.heap.size w w' := l25Small_c x y z 1000000 (by omega) (by omega) w
set_option maxHeartbeats 800000 in
theorem RationalsInLine_S (a b c d e f g h i : Int) (w : World) :
    Calls Try.prog 31 #[.agg #[.int .i64 a, .int .i64 b, .int .i64 c], .agg #[.int .i64 d, .int .i64 e, .int .i64 f], .agg #[.int .i64 g, .int .i64 h, .int .i64 i]] w fun r w' => r = .returned (.tuple #[.bool (rilV a b c d e f g h i), .int .i64 (rilC a b c d e f g h i)]) ∧ Below w.heap.size w w' := by
  rcases ril_cases a b c d e f g h i with ⟨h1, HV⟩ | ⟨h1, h2, HV⟩ | ⟨h1, h2, h3, HV⟩ | ⟨h1, h2, h3, h4, HV⟩ | ⟨h1, h2, h3, h4, h5, HV⟩ | ⟨h1, h2, h3, h4, h5, h6, HV⟩ | ⟨h1, h2, h3, h4, h5, h6, HV⟩
  rotate_left 6
  · have HB := Lib.hid (bd9 h1 h2 h3 h4 h5 h6)
    go_enter Try.func31, Try.ntmps31
    go_wp2_with fail
    go_at_call 92; refine (l25Is_c _ _ _ _).mono ?_; rintro e w1 ⟨rfl, hb1⟩; obtain ⟨hc1, hf1, hz1⟩ := bel hb1; (try simp only [World.size_drew, World.cell?_drew, World.frozen?_drew] at hc1 hf1 hz1); (try simp only [World.heap_drewN, World.cell?_drewN, World.frozen?_drewN] at hc1 hf1 hz1); (try have hl1 : w.heap.size < w1.heap.size := by (have hq := hb1.size; (try simp at hq); omega)); (try have hm1 : w.heap.size + 1 < w1.heap.size := by (have hq := hb1.size; (try simp at hq); omega)); (try have hn1 : w.heap.size + 1 + 1 < w1.heap.size := by (have hq := hb1.size; (try simp at hq); omega)); (try have hp1 : b < w1.heap.size := by (have hq := hb1.size; (try simp at hq); omega)); (try have ho1 : b' < w1.heap.size := by (have hq := hb1.size; (try simp at hq); omega))
    go_wp2_with fail
    go_at_call 92; refine (l25Is_c _ _ _ _).mono ?_; rintro e w2 ⟨rfl, hb2⟩; obtain ⟨hc2, hf2, hz2⟩ := bel hb2; (try simp only [World.size_drew, World.cell?_drew, World.frozen?_drew] at hc2 hf2 hz2); (try simp only [World.heap_drewN, World.cell?_drewN, World.frozen?_drewN] at hc2 hf2 hz2); (try have hl2 : w.heap.size < w2.heap.size := by (have hq := hb2.size; (try simp at hq); omega)); (try have hm2 : w.heap.size + 1 < w2.heap.size := by (have hq := hb2.size; (try simp at hq); omega)); (try have hn2 : w.heap.size + 1 + 1 < w2.heap.size := by (have hq := hb2.size; (try simp at hq); omega)); (try have hp2 : b < w2.heap.size := by (have hq := hb2.size; (try simp at hq); omega)); (try have ho2 : b' < w2.heap.size := by (have hq := hb2.size; (try simp at hq); omega))
    go_wp2_with fail
    go_at_call 92; refine (l25Is_c _ _ _ _).mono ?_; rintro e w3 ⟨rfl, hb3⟩; obtain ⟨hc3, hf3, hz3⟩ := bel hb3; (try simp only [World.size_drew, World.cell?_drew, World.frozen?_drew] at hc3 hf3 hz3); (try simp only [World.heap_drewN, World.cell?_drewN, World.frozen?_drewN] at hc3 hf3 hz3); (try have hl3 : w.heap.size < w3.heap.size := by (have hq := hb3.size; (try simp at hq); omega)); (try have hm3 : w.heap.size + 1 < w3.heap.size := by (have hq := hb3.size; (try simp at hq); omega)); (try have hn3 : w.heap.size + 1 + 1 < w3.heap.size := by (have hq := hb3.size; (try simp at hq); omega)); (try have hp3 : b < w3.heap.size := by (have hq := hb3.size; (try simp at hq); omega)); (try have ho3 : b' < w3.heap.size := by (have hq := hb3.size; (try simp at hq); omega))
    go_wp2_with fail
    go_at_call 93; refine (l25Small6_c _ _ _ _).mono ?_; rintro e w4 ⟨rfl, hb4⟩; obtain ⟨hc4, hf4, hz4⟩ := bel hb4; (try simp only [World.size_drew, World.cell?_drew, World.frozen?_drew] at hc4 hf4 hz4); (try simp only [World.heap_drewN, World.cell?_drewN, World.frozen?_drewN] at hc4 hf4 hz4); (try have hl4 : w.heap.size < w4.heap.size := by (have hq := hb4.size; (try simp at hq); omega)); (try have hm4 : w.heap.size + 1 < w4.heap.size := by (have hq := hb4.size; (try simp at hq); omega)); (try have hn4 : w.heap.size + 1 + 1 < w4.heap.size := by (have hq := hb4.size; (try simp at hq); omega)); (try have hp4 : b < w4.heap.size := by (have hq := hb4.size; (try simp at hq); omega)); (try have ho4 : b' < w4.heap.size := by (have hq := hb4.size; (try simp at hq); omega))
    go_wp2_with fail
    go_at_call 93; refine (l25Small6_c _ _ _ _).mono ?_; rintro e w5 ⟨rfl, hb5⟩; obtain ⟨hc5, hf5, hz5⟩ := bel hb5; (try simp only [World.size_drew, World.cell?_drew, World.frozen?_drew] at hc5 hf5 hz5); (try simp only [World.heap_drewN, World.cell?_drewN, World.frozen?_drewN] at hc5 hf5 hz5); (try have hl5 : w.heap.size < w5.heap.size := by (have hq := hb5.size; (try simp at hq); omega)); (try have hm5 : w.heap.size + 1 < w5.heap.size := by (have hq := hb5.size; (try simp at hq); omega)); (try have hn5 : w.heap.size + 1 + 1 < w5.heap.size := by (have hq := hb5.size; (try simp at hq); omega)); (try have hp5 : b < w5.heap.size := by (have hq := hb5.size; (try simp at hq); omega)); (try have ho5 : b' < w5.heap.size := by (have hq := hb5.size; (try simp at hq); omega))
    go_wp2_with fail
    go_at_call 93; refine (l25Small6_c _ _ _ _).mono ?_; rintro e w6 ⟨rfl, hb6⟩; obtain ⟨hc6, hf6, hz6⟩ := bel hb6; (try simp only [World.size_drew, World.cell?_drew, World.frozen?_drew] at hc6 hf6 hz6); (try simp only [World.heap_drewN, World.cell?_drewN, World.frozen?_drewN] at hc6 hf6 hz6); (try have hl6 : w.heap.size < w6.heap.size := by (have hq := hb6.size; (try simp at hq); omega)); (try have hm6 : w.heap.size + 1 < w6.heap.size := by (have hq := hb6.size; (try simp at hq); omega)); (try have hn6 : w.heap.size + 1 + 1 < w6.heap.size := by (have hq := hb6.size; (try simp at hq); omega)); (try have hp6 : b < w6.heap.size := by (have hq := hb6.size; (try simp at hq); omega)); (try have ho6 : b' < w6.heap.size := by (have hq := hb6.size; (try simp at hq); omega))
    go_wp2_with fail
    have hI : Ints (w6.alloc (.cells (icells [a, b, c, d, e, f, g, h, i]) 2)) (some ⟨w6.heap.size, 0, none⟩) [a, b, c, d, e, f, g, h, i] := Ints.made _ _ _
    refine (l25Det_c [a, b, c, d, e, f, g, h, i] _ 9 9 rfl rfl HB.out _ hI).mono ?_; rintro r w7 ⟨rfl, hb7⟩
    obtain ⟨hc7, hf7, hz7⟩ := bel hb7
    go_wp2
    go_ret2
    exact ⟨by rw [HV.out.1, HV.out.2]; rfl, by repeat (with_reducible first | exact Below.refl _ _ | assumption | refine Bel.alloc ?_ _ | refine Bel.step (by assumption) ?_ | refine Below.drew ?_ | refine Bel.drewN ?_ _ | refine Below.setCell ?_ (by first | exact Nat.le_refl _ | omega | (simp; done) | (simp; omega)) _)⟩
  all_goals
    go_enter Try.func31, Try.ntmps31
    go_wp2_with (first | (go_at_call 92; refine (l25Is_c _ _ _ _).mono ?_; rintro e w1 ⟨rfl, hb1⟩; obtain ⟨hc1, hf1, hz1⟩ := bel hb1; (try simp only [World.size_drew, World.cell?_drew, World.frozen?_drew] at hc1 hf1 hz1); (try simp only [World.heap_drewN, World.cell?_drewN, World.frozen?_drewN] at hc1 hf1 hz1); (try have hl1 : w.heap.size < w1.heap.size := by (have hq := hb1.size; (try simp at hq); omega)); (try have hm1 : w.heap.size + 1 < w1.heap.size := by (have hq := hb1.size; (try simp at hq); omega)); (try have hn1 : w.heap.size + 1 + 1 < w1.heap.size := by (have hq := hb1.size; (try simp at hq); omega)); (try have hp1 : b < w1.heap.size := by (have hq := hb1.size; (try simp at hq); omega)); (try have ho1 : b' < w1.heap.size := by (have hq := hb1.size; (try simp at hq); omega))) | (go_at_call 93; refine (l25Small6_c _ _ _ _).mono ?_; rintro e w1 ⟨rfl, hb1⟩; obtain ⟨hc1, hf1, hz1⟩ := bel hb1; (try simp only [World.size_drew, World.cell?_drew, World.frozen?_drew] at hc1 hf1 hz1); (try simp only [World.heap_drewN, World.cell?_drewN, World.frozen?_drewN] at hc1 hf1 hz1); (try have hl1 : w.heap.size < w1.heap.size := by (have hq := hb1.size; (try simp at hq); omega)); (try have hm1 : w.heap.size + 1 < w1.heap.size := by (have hq := hb1.size; (try simp at hq); omega)); (try have hn1 : w.heap.size + 1 + 1 < w1.heap.size := by (have hq := hb1.size; (try simp at hq); omega)); (try have hp1 : b < w1.heap.size := by (have hq := hb1.size; (try simp at hq); omega)); (try have ho1 : b' < w1.heap.size := by (have hq := hb1.size; (try simp at hq); omega))))
    go_ret2
    exact ⟨by rw [HV.out.1, HV.out.2]; rfl, by repeat (with_reducible first | exact Below.refl _ _ | assumption | refine Bel.alloc ?_ _ | refine Bel.step (by assumption) ?_ | refine Below.drew ?_ | refine Bel.drewN ?_ _ | refine Below.setCell ?_ (by first | exact Nat.le_refl _ | omega | (simp; done) | (simp; omega)) _)⟩
set_option maxHeartbeats 800000 in
theorem RationalsInLine_I (a b c d e f g h i : Int) (w : World) :
    Calls Try.prog 30 #[.agg #[.int .i64 a, .int .i64 b, .int .i64 c], .agg #[.int .i64 d, .int .i64 e, .int .i64 f], .agg #[.int .i64 g, .int .i64 h, .int .i64 i]] w fun r w' => r = .returned (.tuple #[.bool (rilV a b c d e f g h i), .int .i64 (rilC a b c d e f g h i)]) ∧ Below w.heap.size w w' := by
  rcases ril_cases a b c d e f g h i with ⟨h1, HV⟩ | ⟨h1, h2, HV⟩ | ⟨h1, h2, h3, HV⟩ | ⟨h1, h2, h3, h4, HV⟩ | ⟨h1, h2, h3, h4, h5, HV⟩ | ⟨h1, h2, h3, h4, h5, h6, HV⟩ | ⟨h1, h2, h3, h4, h5, h6, HV⟩
  · go_enter Try.func30, Try.ntmps30
    go_wp2_with (first | (go_at_call 90; refine (isRational_c _ _ _ _).mono ?_; rintro e w1 ⟨rfl, hb1⟩; obtain ⟨hc1, hf1, hz1⟩ := bel hb1; (try simp only [World.size_drew, World.cell?_drew, World.frozen?_drew] at hc1 hf1 hz1); (try simp only [World.heap_drewN, World.cell?_drewN, World.frozen?_drewN] at hc1 hf1 hz1); (try have hl1 : w.heap.size < w1.heap.size := by (have hq := hb1.size; (try simp at hq); omega)); (try have hm1 : w.heap.size + 1 < w1.heap.size := by (have hq := hb1.size; (try simp at hq); omega)); (try have hn1 : w.heap.size + 1 + 1 < w1.heap.size := by (have hq := hb1.size; (try simp at hq); omega)); (try have hp1 : b < w1.heap.size := by (have hq := hb1.size; (try simp at hq); omega)); (try have ho1 : b' < w1.heap.size := by (have hq := hb1.size; (try simp at hq); omega))))
    go_ret2
    exact ⟨by rw [HV.out.1, HV.out.2]; rfl, by repeat (with_reducible first | exact Below.refl _ _ | assumption | refine Bel.alloc ?_ _ | refine Bel.step (by assumption) ?_ | refine Below.drew ?_ | refine Bel.drewN ?_ _ | refine Below.setCell ?_ (by first | exact Nat.le_refl _ | omega | (simp; done) | (simp; omega)) _)⟩
  · go_enter Try.func30, Try.ntmps30
    go_wp2_with (first | (go_at_call 90; refine (isRational_c _ _ _ _).mono ?_; rintro e w1 ⟨rfl, hb1⟩; obtain ⟨hc1, hf1, hz1⟩ := bel hb1; (try simp only [World.size_drew, World.cell?_drew, World.frozen?_drew] at hc1 hf1 hz1); (try simp only [World.heap_drewN, World.cell?_drewN, World.frozen?_drewN] at hc1 hf1 hz1); (try have hl1 : w.heap.size < w1.heap.size := by (have hq := hb1.size; (try simp at hq); omega)); (try have hm1 : w.heap.size + 1 < w1.heap.size := by (have hq := hb1.size; (try simp at hq); omega)); (try have hn1 : w.heap.size + 1 + 1 < w1.heap.size := by (have hq := hb1.size; (try simp at hq); omega)); (try have hp1 : b < w1.heap.size := by (have hq := hb1.size; (try simp at hq); omega)); (try have ho1 : b' < w1.heap.size := by (have hq := hb1.size; (try simp at hq); omega))))
    go_ret2
    exact ⟨by rw [HV.out.1, HV.out.2]; rfl, by repeat (with_reducible first | exact Below.refl _ _ | assumption | refine Bel.alloc ?_ _ | refine Bel.step (by assumption) ?_ | refine Below.drew ?_ | refine Bel.drewN ?_ _ | refine Below.setCell ?_ (by first | exact Nat.le_refl _ | omega | (simp; done) | (simp; omega)) _)⟩
  · go_enter Try.func30, Try.ntmps30
    go_wp2_with (first | (go_at_call 90; refine (isRational_c _ _ _ _).mono ?_; rintro e w1 ⟨rfl, hb1⟩; obtain ⟨hc1, hf1, hz1⟩ := bel hb1; (try simp only [World.size_drew, World.cell?_drew, World.frozen?_drew] at hc1 hf1 hz1); (try simp only [World.heap_drewN, World.cell?_drewN, World.frozen?_drewN] at hc1 hf1 hz1); (try have hl1 : w.heap.size < w1.heap.size := by (have hq := hb1.size; (try simp at hq); omega)); (try have hm1 : w.heap.size + 1 < w1.heap.size := by (have hq := hb1.size; (try simp at hq); omega)); (try have hn1 : w.heap.size + 1 + 1 < w1.heap.size := by (have hq := hb1.size; (try simp at hq); omega)); (try have hp1 : b < w1.heap.size := by (have hq := hb1.size; (try simp at hq); omega)); (try have ho1 : b' < w1.heap.size := by (have hq := hb1.size; (try simp at hq); omega))))
    go_ret2
    exact ⟨by rw [HV.out.1, HV.out.2]; rfl, by repeat (with_reducible first | exact Below.refl _ _ | assumption | refine Bel.alloc ?_ _ | refine Bel.step (by assumption) ?_ | refine Below.drew ?_ | refine Bel.drewN ?_ _ | refine Below.setCell ?_ (by first | exact Nat.le_refl _ | omega | (simp; done) | (simp; omega)) _)⟩
  · have hA : [a, b, c, d, e, f, g, h, i].any noBig = true := by
      rw [any9 h1 h2 h3]; simp [smls9, *]
    have HA := Lib.hid hA
    clear hA
    go_enter Try.func30, Try.ntmps30
    go_wp2_with fail
    go_at_call 90; refine (isRational_c _ _ _ _).mono ?_; rintro e w1 ⟨rfl, hb1⟩; obtain ⟨hc1, hf1, hz1⟩ := bel hb1; (try simp only [World.size_drew, World.cell?_drew, World.frozen?_drew] at hc1 hf1 hz1); (try simp only [World.heap_drewN, World.cell?_drewN, World.frozen?_drewN] at hc1 hf1 hz1); (try have hl1 : w.heap.size < w1.heap.size := by (have hq := hb1.size; (try simp at hq); omega)); (try have hm1 : w.heap.size + 1 < w1.heap.size := by (have hq := hb1.size; (try simp at hq); omega)); (try have hn1 : w.heap.size + 1 + 1 < w1.heap.size := by (have hq := hb1.size; (try simp at hq); omega)); (try have hp1 : b < w1.heap.size := by (have hq := hb1.size; (try simp at hq); omega)); (try have ho1 : b' < w1.heap.size := by (have hq := hb1.size; (try simp at hq); omega))
    go_wp2_with fail
    go_at_call 90; refine (isRational_c _ _ _ _).mono ?_; rintro e w2 ⟨rfl, hb2⟩; obtain ⟨hc2, hf2, hz2⟩ := bel hb2; (try simp only [World.size_drew, World.cell?_drew, World.frozen?_drew] at hc2 hf2 hz2); (try simp only [World.heap_drewN, World.cell?_drewN, World.frozen?_drewN] at hc2 hf2 hz2); (try have hl2 : w.heap.size < w2.heap.size := by (have hq := hb2.size; (try simp at hq); omega)); (try have hm2 : w.heap.size + 1 < w2.heap.size := by (have hq := hb2.size; (try simp at hq); omega)); (try have hn2 : w.heap.size + 1 + 1 < w2.heap.size := by (have hq := hb2.size; (try simp at hq); omega)); (try have hp2 : b < w2.heap.size := by (have hq := hb2.size; (try simp at hq); omega)); (try have ho2 : b' < w2.heap.size := by (have hq := hb2.size; (try simp at hq); omega))
    go_wp2_with fail
    go_at_call 90; refine (isRational_c _ _ _ _).mono ?_; rintro e w3 ⟨rfl, hb3⟩; obtain ⟨hc3, hf3, hz3⟩ := bel hb3; (try simp only [World.size_drew, World.cell?_drew, World.frozen?_drew] at hc3 hf3 hz3); (try simp only [World.heap_drewN, World.cell?_drewN, World.frozen?_drewN] at hc3 hf3 hz3); (try have hl3 : w.heap.size < w3.heap.size := by (have hq := hb3.size; (try simp at hq); omega)); (try have hm3 : w.heap.size + 1 < w3.heap.size := by (have hq := hb3.size; (try simp at hq); omega)); (try have hn3 : w.heap.size + 1 + 1 < w3.heap.size := by (have hq := hb3.size; (try simp at hq); omega)); (try have hp3 : b < w3.heap.size := by (have hq := hb3.size; (try simp at hq); omega)); (try have ho3 : b' < w3.heap.size := by (have hq := hb3.size; (try simp at hq); omega))
    rw [h3]
    go_wp2_with fail
    have hI : Ints (w3.alloc (.cells (icells [a, b, c, d, e, f, g, h, i]) 2)) (some ⟨w3.heap.size, 0, none⟩) [a, b, c, d, e, f, g, h, i] := Ints.made _ _ _
    refine (contains_noBig_c _ 9 [a, b, c, d, e, f, g, h, i] (by simp) _ hI).mono ?_; rintro r w' ⟨rfl, rfl⟩
    rw [HA.out]
    go_wp2
    go_ret2
    exact ⟨by rw [HV.out.1, HV.out.2]; rfl, by repeat (with_reducible first | exact Below.refl _ _ | assumption | refine Bel.alloc ?_ _ | refine Bel.step (by assumption) ?_ | refine Below.drew ?_ | refine Bel.drewN ?_ _ | refine Below.setCell ?_ (by first | exact Nat.le_refl _ | omega | (simp; done) | (simp; omega)) _)⟩
  · have hA : [a, b, c, d, e, f, g, h, i].any noBig = true := by
      rw [any9 h1 h2 h3]; simp [smls9, *]
    have HA := Lib.hid hA
    clear hA
    go_enter Try.func30, Try.ntmps30
    go_wp2_with fail
    go_at_call 90; refine (isRational_c _ _ _ _).mono ?_; rintro e w1 ⟨rfl, hb1⟩; obtain ⟨hc1, hf1, hz1⟩ := bel hb1; (try simp only [World.size_drew, World.cell?_drew, World.frozen?_drew] at hc1 hf1 hz1); (try simp only [World.heap_drewN, World.cell?_drewN, World.frozen?_drewN] at hc1 hf1 hz1); (try have hl1 : w.heap.size < w1.heap.size := by (have hq := hb1.size; (try simp at hq); omega)); (try have hm1 : w.heap.size + 1 < w1.heap.size := by (have hq := hb1.size; (try simp at hq); omega)); (try have hn1 : w.heap.size + 1 + 1 < w1.heap.size := by (have hq := hb1.size; (try simp at hq); omega)); (try have hp1 : b < w1.heap.size := by (have hq := hb1.size; (try simp at hq); omega)); (try have ho1 : b' < w1.heap.size := by (have hq := hb1.size; (try simp at hq); omega))
    go_wp2_with fail
    go_at_call 90; refine (isRational_c _ _ _ _).mono ?_; rintro e w2 ⟨rfl, hb2⟩; obtain ⟨hc2, hf2, hz2⟩ := bel hb2; (try simp only [World.size_drew, World.cell?_drew, World.frozen?_drew] at hc2 hf2 hz2); (try simp only [World.heap_drewN, World.cell?_drewN, World.frozen?_drewN] at hc2 hf2 hz2); (try have hl2 : w.heap.size < w2.heap.size := by (have hq := hb2.size; (try simp at hq); omega)); (try have hm2 : w.heap.size + 1 < w2.heap.size := by (have hq := hb2.size; (try simp at hq); omega)); (try have hn2 : w.heap.size + 1 + 1 < w2.heap.size := by (have hq := hb2.size; (try simp at hq); omega)); (try have hp2 : b < w2.heap.size := by (have hq := hb2.size; (try simp at hq); omega)); (try have ho2 : b' < w2.heap.size := by (have hq := hb2.size; (try simp at hq); omega))
    go_wp2_with fail
    go_at_call 90; refine (isRational_c _ _ _ _).mono ?_; rintro e w3 ⟨rfl, hb3⟩; obtain ⟨hc3, hf3, hz3⟩ := bel hb3; (try simp only [World.size_drew, World.cell?_drew, World.frozen?_drew] at hc3 hf3 hz3); (try simp only [World.heap_drewN, World.cell?_drewN, World.frozen?_drewN] at hc3 hf3 hz3); (try have hl3 : w.heap.size < w3.heap.size := by (have hq := hb3.size; (try simp at hq); omega)); (try have hm3 : w.heap.size + 1 < w3.heap.size := by (have hq := hb3.size; (try simp at hq); omega)); (try have hn3 : w.heap.size + 1 + 1 < w3.heap.size := by (have hq := hb3.size; (try simp at hq); omega)); (try have hp3 : b < w3.heap.size := by (have hq := hb3.size; (try simp at hq); omega)); (try have ho3 : b' < w3.heap.size := by (have hq := hb3.size; (try simp at hq); omega))
    rw [h3]
    go_wp2_with fail
    have hI : Ints (w3.alloc (.cells (icells [a, b, c, d, e, f, g, h, i]) 2)) (some ⟨w3.heap.size, 0, none⟩) [a, b, c, d, e, f, g, h, i] := Ints.made _ _ _
    refine (contains_noBig_c _ 9 [a, b, c, d, e, f, g, h, i] (by simp) _ hI).mono ?_; rintro r w' ⟨rfl, rfl⟩
    rw [HA.out]
    go_wp2
    go_ret2
    exact ⟨by rw [HV.out.1, HV.out.2]; rfl, by repeat (with_reducible first | exact Below.refl _ _ | assumption | refine Bel.alloc ?_ _ | refine Bel.step (by assumption) ?_ | refine Below.drew ?_ | refine Bel.drewN ?_ _ | refine Below.setCell ?_ (by first | exact Nat.le_refl _ | omega | (simp; done) | (simp; omega)) _)⟩
  · have hA : [a, b, c, d, e, f, g, h, i].any noBig = true := by
      rw [any9 h1 h2 h3]; simp [smls9, *]
    have HA := Lib.hid hA
    clear hA
    go_enter Try.func30, Try.ntmps30
    go_wp2_with fail
    go_at_call 90; refine (isRational_c _ _ _ _).mono ?_; rintro e w1 ⟨rfl, hb1⟩; obtain ⟨hc1, hf1, hz1⟩ := bel hb1; (try simp only [World.size_drew, World.cell?_drew, World.frozen?_drew] at hc1 hf1 hz1); (try simp only [World.heap_drewN, World.cell?_drewN, World.frozen?_drewN] at hc1 hf1 hz1); (try have hl1 : w.heap.size < w1.heap.size := by (have hq := hb1.size; (try simp at hq); omega)); (try have hm1 : w.heap.size + 1 < w1.heap.size := by (have hq := hb1.size; (try simp at hq); omega)); (try have hn1 : w.heap.size + 1 + 1 < w1.heap.size := by (have hq := hb1.size; (try simp at hq); omega)); (try have hp1 : b < w1.heap.size := by (have hq := hb1.size; (try simp at hq); omega)); (try have ho1 : b' < w1.heap.size := by (have hq := hb1.size; (try simp at hq); omega))
    go_wp2_with fail
    go_at_call 90; refine (isRational_c _ _ _ _).mono ?_; rintro e w2 ⟨rfl, hb2⟩; obtain ⟨hc2, hf2, hz2⟩ := bel hb2; (try simp only [World.size_drew, World.cell?_drew, World.frozen?_drew] at hc2 hf2 hz2); (try simp only [World.heap_drewN, World.cell?_drewN, World.frozen?_drewN] at hc2 hf2 hz2); (try have hl2 : w.heap.size < w2.heap.size := by (have hq := hb2.size; (try simp at hq); omega)); (try have hm2 : w.heap.size + 1 < w2.heap.size := by (have hq := hb2.size; (try simp at hq); omega)); (try have hn2 : w.heap.size + 1 + 1 < w2.heap.size := by (have hq := hb2.size; (try simp at hq); omega)); (try have hp2 : b < w2.heap.size := by (have hq := hb2.size; (try simp at hq); omega)); (try have ho2 : b' < w2.heap.size := by (have hq := hb2.size; (try simp at hq); omega))
    go_wp2_with fail
    go_at_call 90; refine (isRational_c _ _ _ _).mono ?_; rintro e w3 ⟨rfl, hb3⟩; obtain ⟨hc3, hf3, hz3⟩ := bel hb3; (try simp only [World.size_drew, World.cell?_drew, World.frozen?_drew] at hc3 hf3 hz3); (try simp only [World.heap_drewN, World.cell?_drewN, World.frozen?_drewN] at hc3 hf3 hz3); (try have hl3 : w.heap.size < w3.heap.size := by (have hq := hb3.size; (try simp at hq); omega)); (try have hm3 : w.heap.size + 1 < w3.heap.size := by (have hq := hb3.size; (try simp at hq); omega)); (try have hn3 : w.heap.size + 1 + 1 < w3.heap.size := by (have hq := hb3.size; (try simp at hq); omega)); (try have hp3 : b < w3.heap.size := by (have hq := hb3.size; (try simp at hq); omega)); (try have ho3 : b' < w3.heap.size := by (have hq := hb3.size; (try simp at hq); omega))
    rw [h3]
    go_wp2_with fail
    have hI : Ints (w3.alloc (.cells (icells [a, b, c, d, e, f, g, h, i]) 2)) (some ⟨w3.heap.size, 0, none⟩) [a, b, c, d, e, f, g, h, i] := Ints.made _ _ _
    refine (contains_noBig_c _ 9 [a, b, c, d, e, f, g, h, i] (by simp) _ hI).mono ?_; rintro r w' ⟨rfl, rfl⟩
    rw [HA.out]
    go_wp2
    go_ret2
    exact ⟨by rw [HV.out.1, HV.out.2]; rfl, by repeat (with_reducible first | exact Below.refl _ _ | assumption | refine Bel.alloc ?_ _ | refine Bel.step (by assumption) ?_ | refine Below.drew ?_ | refine Bel.drewN ?_ _ | refine Below.setCell ?_ (by first | exact Nat.le_refl _ | omega | (simp; done) | (simp; omega)) _)⟩
  · have HA := Lib.hid (show [a, b, c, d, e, f, g, h, i].any noBig = false by rw [any9 h1 h2 h3]; simp [smls9, *])
    have HB := Lib.hid (bd9 h1 h2 h3 h4 h5 h6)
    go_enter Try.func30, Try.ntmps30
    go_wp2_with fail
    go_at_call 90; refine (isRational_c _ _ _ _).mono ?_; rintro e w1 ⟨rfl, hb1⟩; obtain ⟨hc1, hf1, hz1⟩ := bel hb1; (try simp only [World.size_drew, World.cell?_drew, World.frozen?_drew] at hc1 hf1 hz1); (try simp only [World.heap_drewN, World.cell?_drewN, World.frozen?_drewN] at hc1 hf1 hz1); (try have hl1 : w.heap.size < w1.heap.size := by (have hq := hb1.size; (try simp at hq); omega)); (try have hm1 : w.heap.size + 1 < w1.heap.size := by (have hq := hb1.size; (try simp at hq); omega)); (try have hn1 : w.heap.size + 1 + 1 < w1.heap.size := by (have hq := hb1.size; (try simp at hq); omega)); (try have hp1 : b < w1.heap.size := by (have hq := hb1.size; (try simp at hq); omega)); (try have ho1 : b' < w1.heap.size := by (have hq := hb1.size; (try simp at hq); omega))
    go_wp2_with fail
    go_at_call 90; refine (isRational_c _ _ _ _).mono ?_; rintro e w2 ⟨rfl, hb2⟩; obtain ⟨hc2, hf2, hz2⟩ := bel hb2; (try simp only [World.size_drew, World.cell?_drew, World.frozen?_drew] at hc2 hf2 hz2); (try simp only [World.heap_drewN, World.cell?_drewN, World.frozen?_drewN] at hc2 hf2 hz2); (try have hl2 : w.heap.size < w2.heap.size := by (have hq := hb2.size; (try simp at hq); omega)); (try have hm2 : w.heap.size + 1 < w2.heap.size := by (have hq := hb2.size; (try simp at hq); omega)); (try have hn2 : w.heap.size + 1 + 1 < w2.heap.size := by (have hq := hb2.size; (try simp at hq); omega)); (try have hp2 : b < w2.heap.size := by (have hq := hb2.size; (try simp at hq); omega)); (try have ho2 : b' < w2.heap.size := by (have hq := hb2.size; (try simp at hq); omega))
    go_wp2_with fail
    go_at_call 90; refine (isRational_c _ _ _ _).mono ?_; rintro e w3 ⟨rfl, hb3⟩; obtain ⟨hc3, hf3, hz3⟩ := bel hb3; (try simp only [World.size_drew, World.cell?_drew, World.frozen?_drew] at hc3 hf3 hz3); (try simp only [World.heap_drewN, World.cell?_drewN, World.frozen?_drewN] at hc3 hf3 hz3); (try have hl3 : w.heap.size < w3.heap.size := by (have hq := hb3.size; (try simp at hq); omega)); (try have hm3 : w.heap.size + 1 < w3.heap.size := by (have hq := hb3.size; (try simp at hq); omega)); (try have hn3 : w.heap.size + 1 + 1 < w3.heap.size := by (have hq := hb3.size; (try simp at hq); omega)); (try have hp3 : b < w3.heap.size := by (have hq := hb3.size; (try simp at hq); omega)); (try have ho3 : b' < w3.heap.size := by (have hq := hb3.size; (try simp at hq); omega))
    rw [h3]
    go_wp2_with fail
    have hI : Ints (w3.alloc (.cells (icells [a, b, c, d, e, f, g, h, i]) 2)) (some ⟨w3.heap.size, 0, none⟩) [a, b, c, d, e, f, g, h, i] := Ints.made _ _ _
    refine (contains_noBig_c _ 9 [a, b, c, d, e, f, g, h, i] (by simp) _ hI).mono ?_; rintro r w' ⟨rfl, rfl⟩
    rw [HA.out]
    go_wp2_with fail
    refine (determinant_c [a, b, c, d, e, f, g, h, i] _ 9 9 rfl rfl HB.out _ hI).mono ?_; rintro r w7 ⟨rfl, hb7⟩
    obtain ⟨hc7, hf7, hz7⟩ := bel hb7
    go_wp2
    go_ret2
    exact ⟨by rw [HV.out.1, HV.out.2]; rfl, by repeat (with_reducible first | exact Below.refl _ _ | assumption | refine Bel.alloc ?_ _ | refine Bel.step (by assumption) ?_ | refine Below.drew ?_ | refine Bel.drewN ?_ _ | refine Below.setCell ?_ (by first | exact Nat.le_refl _ | omega | (simp; done) | (simp; omega)) _)⟩
end Go.Proofs.Ythfphjbaglgacaa
