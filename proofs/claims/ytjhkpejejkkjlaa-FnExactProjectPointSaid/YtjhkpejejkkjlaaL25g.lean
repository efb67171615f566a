/- Chapter 25: rational points in line. Conditions: as stated at each contract. -/
import Derived.Test.YtjhkpejejkkjlaaProg
import Derived.Test.YtjhkpejejkkjlaaBase
import Derived.Test.YtjhkpejejkkjlaaL01
import Derived.Test.YtjhkpejejkkjlaaCp
import Derived.Test.YtjhkpejejkkjlaaL25
import Derived.Test.YtjhkpejejkkjlaaL25b
import Derived.WalkKit
import Derived.WalkSpells
import Derived.WalkLawsBesides
import Derived.Lib.Hide
import Derived.Deep.QuietTactic
import Derived.BigQuiet
import Derived.Deep.Draws
import Derived.Deep.RegionHeld3
namespace Go.Proofs.Ytjhkpejejkkjlaa
open Go.RowKit
set_option linter.unusedVariables false
def smlB (x y z : Int) : Bool := inB x (-1000000) 1000000 && inB y (-1000000) 1000000 && decide (z ≤ 1000000)
def smlB9 (x y z : Int) : Bool := inB x (-1000000000) 1000000000 && inB y (-1000000000) 1000000000 && decide (z ≤ 1000000000)
def rats9 (a b c d e f g h i : Int) : Bool := ratB a b c && ratB d e f && ratB g h i
def smls9 (a b c d e f g h i : Int) : Bool := smlB a b c && smlB d e f && smlB g h i
def rilC (a b c d e f g h i : Int) : Int := if rats9 a b c d e f g h i then (if smls9 a b c d e f g h i then 0 else 3) else 1
def rilV (a b c d e f g h i : Int) : Bool := rats9 a b c d e f g h i && smls9 a b c d e f g h i && decide (detV [a, b, c, d, e, f, g, h, i] = 0)
theorem ril_cases (a b c d e f g h i : Int) :
    (ratB a b c = false ∧ Hid (rilC a b c d e f g h i = 1 ∧ rilV a b c d e f g h i = false)) ∨
    (ratB a b c = true ∧ ratB d e f = false ∧ Hid (rilC a b c d e f g h i = 1 ∧ rilV a b c d e f g h i = false)) ∨
    (ratB a b c = true ∧ ratB d e f = true ∧ ratB g h i = false ∧ Hid (rilC a b c d e f g h i = 1 ∧ rilV a b c d e f g h i = false)) ∨
    (ratB a b c = true ∧ ratB d e f = true ∧ ratB g h i = true ∧ smlB a b c = false ∧ Hid (rilC a b c d e f g h i = 3 ∧ rilV a b c d e f g h i = false)) ∨
    (ratB a b c = true ∧ ratB d e f = true ∧ ratB g h i = true ∧ smlB a b c = true ∧ smlB d e f = false ∧ Hid (rilC a b c d e f g h i = 3 ∧ rilV a b c d e f g h i = false)) ∨
    (ratB a b c = true ∧ ratB d e f = true ∧ ratB g h i = true ∧ smlB a b c = true ∧ smlB d e f = true ∧ smlB g h i = false ∧ Hid (rilC a b c d e f g h i = 3 ∧ rilV a b c d e f g h i = false)) ∨
    (ratB a b c = true ∧ ratB d e f = true ∧ ratB g h i = true ∧ smlB a b c = true ∧ smlB d e f = true ∧ smlB g h i = true ∧ Hid (rilC a b c d e f g h i = 0 ∧ rilV a b c d e f g h i = decide (detV [a, b, c, d, e, f, g, h, i] = 0))) := by
  unfold Hid rilC rilV rats9 smls9
  cases ratB a b c <;> cases ratB d e f <;> cases ratB g h i <;> cases smlB a b c <;> cases smlB d e f <;> cases smlB g h i <;> simp
theorem ratB_pos {x y z : Int} (h : ratB x y z = true) : 1 ≤ z := by
  simp only [ratB, Bool.and_eq_true] at h
  exact (inB_iff.1 h.1.2).1
theorem noBig_sml {x y z : Int} (h : ratB x y z = true) : (noBig x || (noBig y || noBig z)) = !smlB x y z := by
  have hz := ratB_pos h
  rw [Bool.eq_iff_iff]
  simp [noBig, smlB, inB]
  omega
theorem any9 {a b c d e f g h i : Int} (h1 : ratB a b c = true) (h2 : ratB d e f = true) (h3 : ratB g h i = true) : [a, b, c, d, e, f, g, h, i].any noBig = !smls9 a b c d e f g h i := by
  have e1 := noBig_sml h1
  have e2 := noBig_sml h2
  have e3 := noBig_sml h3
  unfold smls9
  rw [Bool.not_and, Bool.not_and, ← e1, ← e2, ← e3]
  simp [List.any_cons, Bool.or_assoc]
theorem sml_bd {x y z : Int} (h0 : ratB x y z = true) (h : smlB x y z = true) : (-1000000 ≤ x ∧ x ≤ 1000000) ∧ (-1000000 ≤ y ∧ y ≤ 1000000) ∧ -1000000 ≤ z ∧ z ≤ 1000000 := by
  have hz := ratB_pos h0
  simp only [smlB, Bool.and_eq_true, decide_eq_true_eq] at h
  have a := inB_iff.1 h.1.1
  have b := inB_iff.1 h.1.2
  omega
theorem bd9 {a b c d e f g h i : Int} (h1 : ratB a b c = true) (h2 : ratB d e f = true) (h3 : ratB g h i = true) (k1 : smlB a b c = true) (k2 : smlB d e f = true) (k3 : smlB g h i = true) : ∀ j, -1000000 ≤ [a, b, c, d, e, f, g, h, i].getD j 0 ∧ [a, b, c, d, e, f, g, h, i].getD j 0 ≤ 1000000 := by
  obtain ⟨a1, a2, a3⟩ := sml_bd h1 k1
  obtain ⟨b1, b2, b3⟩ := sml_bd h2 k2
  obtain ⟨c1, c2, c3⟩ := sml_bd h3 k3
  intro j
  match j with
  | 0 => exact a1
  | 1 => exact a2
  | 2 => exact a3
  | 3 => exact b1
  | 4 => exact b2
  | 5 => exact b3
  | 6 => exact c1
  | 7 => exact c2
  | 8 => exact c3
  | n + 9 => simp
theorem Ints.made (w : World) (T : TypeId) (zs : List Int) : Ints (w.alloc (.cells (icells zs) T)) (some ⟨w.heap.size, 0, none⟩) zs := (Blk.new w T (icells zs)).ints
theorem l25Small_c (x y z most : Int) (hm1 : 0 ≤ most) (hm2 : most ≤ 1000000000000) (w : World) :
    Calls Try.prog 74 #[.agg #[.int .i64 x, .int .i64 y, .int .i64 z], .int .i64 most] w fun e w' => e = .returned (.bool (inB x (-most) most && inB y (-most) most && decide (z ≤ most))) ∧ Below w.heap.size w w' := by
  by_cases h1 : inB x (-most) most = true
  · by_cases h2 : inB y (-most) most = true
    · go_enter Try.func74, Try.ntmps74
      go_wp2_with (first | (go_at_call 61; refine (l01In_c _ _ _ _).mono ?_; rintro e w' ⟨rfl, rfl⟩))
      go_ret
      exact ⟨ret_bool (by simp [h1, h2]), by repeat (with_reducible first | exact Below.refl _ _ | assumption | refine Bel.alloc ?_ _ | refine Bel.step (by assumption) ?_ | refine Below.drew ?_ | refine Bel.drewN ?_ _ | refine Below.setCell ?_ (by first | exact Nat.le_refl _ | omega | (simp; done) | (simp; omega)) _)⟩
    · have h2' : inB y (-most) most = false := by simpa using h2
      clear h2
      go_enter Try.func74, Try.ntmps74
      go_wp2_with (first | (go_at_call 61; refine (l01In_c _ _ _ _).mono ?_; rintro e w' ⟨rfl, rfl⟩))
      go_ret
      exact ⟨ret_bool (by simp [h2']), by repeat (with_reducible first | exact Below.refl _ _ | assumption | refine Bel.alloc ?_ _ | refine Bel.step (by assumption) ?_ | refine Below.drew ?_ | refine Bel.drewN ?_ _ | refine Below.setCell ?_ (by first | exact Nat.le_refl _ | omega | (simp; done) | (simp; omega)) _)⟩
  · have h1' : inB x (-most) most = false := by simpa using h1
    clear h1
    go_enter Try.func74, Try.ntmps74
    go_wp2_with (first | (go_at_call 61; refine (l01In_c _ _ _ _).mono ?_; rintro e w' ⟨rfl, rfl⟩))
    go_ret
    exact ⟨ret_bool (by simp [h1']), by repeat (with_reducible first | exact Below.refl _ _ | assumption | refine Bel.alloc ?_ _ | refine Bel.step (by assumption) ?_ | refine Below.drew ?_ | refine Bel.drewN ?_ _ | refine Below.setCell ?_ (by first | exact Nat.le_refl _ | omega | (simp; done) | (simp; omega)) _)⟩
theorem l25Small6_c (x y z : Int) (w : World) :
    Calls Try.prog 74 #[.agg #[.int .i64 x, .int .i64 y, .int .i64 z], .int .i64 1000000] w fun e w' => e = .returned (.bool (smlB x y z)) ∧ Below w.heap.size w w' := l25Small_c x y z 1000000 (by omega) (by omega) w
end Go.Proofs.Ytjhkpejejkkjlaa
