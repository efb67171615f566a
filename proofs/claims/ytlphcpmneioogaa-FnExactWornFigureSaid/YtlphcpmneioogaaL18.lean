/- Chapters 2, 18 and 23: valid figures, formulas, charts. Conditions: as stated at each contract. -/
import Derived.Test.YtlphcpmneioogaaProg
import Derived.Test.YtlphcpmneioogaaBase
import Derived.Test.YtlphcpmneioogaaL01
import Derived.Test.YtlphcpmneioogaaCp
import Derived.WalkKit
import Derived.WalkSpells
import Derived.WalkLawsBesides
import Derived.Lib.Hide
import Derived.Deep.QuietTactic
import Derived.BigQuiet
import Derived.Deep.Draws
import Derived.Deep.RegionHeld3
import Derived.PlainAid
namespace Go.Proofs.Ytlphcpmneioogaa
open Go.RowKit Go.PlainAid
set_option linter.unusedVariables false
def okF (dg tn : Int) : Bool := inB dg 1000 9999 && inB tn (-30) 30
theorem okF_iff {dg tn : Int} (h : okF dg tn = true) : 1000 ≤ dg ∧ dg ≤ 9999 ∧ -30 ≤ tn ∧ tn ≤ 30 := by
  simp only [okF, Bool.and_eq_true, inB_iff] at h; omega
/-- Is the letter with number k, with its exponent, in order? -/
def ltr (nm : ByteArray) (zs : List Int) (k : Nat) : Bool := decide (97 ≤ bt nm k) && decide (bt nm k ≤ 122) && (decide (¬ 0 < k) || decide (bt nm (k - 1) < bt nm k)) && decide (zs.getD k 0 ≠ 0) && inB (zs.getD k 0) (-6) 6
def ltrs (nm : ByteArray) (zs : List Int) : Nat → Bool
  | 0 => true
  | k + 1 => ltrs nm zs k && ltr nm zs k
theorem ltrs_no {nm : ByteArray} {zs : List Int} {k n : Nat} (h : ltr nm zs k = false) (hk : k < n) : ltrs nm zs n = false := by
  induction n with
  | zero => omega
  | succ n ih =>
    rcases Nat.lt_or_eq_of_le (Nat.le_of_lt_succ hk) with h1 | h1
    · simp [ltrs, ih h1]
    · subst h1; simp [ltrs, h]
theorem ltrs_yes {nm : ByteArray} {zs : List Int} {k : Nat} (h1 : ltrs nm zs k = true) (h : ltr nm zs k = true) : ltrs nm zs (k + 1) = true := by simp [ltrs, h, h1]
theorem ltrs_at {nm : ByteArray} {zs : List Int} {k n : Nat} (h : ltrs nm zs n = true) (hk : k < n) : ltr nm zs k = true := by
  cases h1 : ltr nm zs k with
  | true => rfl
  | false => rw [ltrs_no h1 hk] at h; cases h
theorem ltr_cases (nm : ByteArray) (zs : List Int) (k : Nat) :
    (decide (bt nm k < 97) = true ∧ Hid (ltr nm zs k = false)) ∨
    (decide (bt nm k < 97) = false ∧ decide (122 < bt nm k) = true ∧ Hid (ltr nm zs k = false)) ∨
    (decide (bt nm k < 97) = false ∧ decide (122 < bt nm k) = false ∧ decide (0 < k) = true ∧ decide (bt nm k ≤ bt nm (k - 1)) = true ∧ Hid (ltr nm zs k = false)) ∨
    (decide (bt nm k < 97) = false ∧ decide (122 < bt nm k) = false ∧ decide (0 < k) = false ∧ (zs.getD k 0 == 0) = true ∧ Hid (ltr nm zs k = false)) ∨
    (decide (bt nm k < 97) = false ∧ decide (122 < bt nm k) = false ∧ decide (0 < k) = false ∧ (zs.getD k 0 == 0) = false ∧ inB (zs.getD k 0) (-6) 6 = false ∧ Hid (ltr nm zs k = false)) ∨
    (decide (bt nm k < 97) = false ∧ decide (122 < bt nm k) = false ∧ decide (0 < k) = false ∧ (zs.getD k 0 == 0) = false ∧ inB (zs.getD k 0) (-6) 6 = true ∧ Hid (ltr nm zs k = true)) ∨
    (decide (bt nm k < 97) = false ∧ decide (122 < bt nm k) = false ∧ decide (0 < k) = true ∧ decide (bt nm k ≤ bt nm (k - 1)) = false ∧ (zs.getD k 0 == 0) = true ∧ Hid (ltr nm zs k = false)) ∨
    (decide (bt nm k < 97) = false ∧ decide (122 < bt nm k) = false ∧ decide (0 < k) = true ∧ decide (bt nm k ≤ bt nm (k - 1)) = false ∧ (zs.getD k 0 == 0) = false ∧ inB (zs.getD k 0) (-6) 6 = false ∧ Hid (ltr nm zs k = false)) ∨
    (decide (bt nm k < 97) = false ∧ decide (122 < bt nm k) = false ∧ decide (0 < k) = true ∧ decide (bt nm k ≤ bt nm (k - 1)) = false ∧ (zs.getD k 0 == 0) = false ∧ inB (zs.getD k 0) (-6) 6 = true ∧ Hid (ltr nm zs k = true)) := by
  unfold Hid ltr
  have e0 : decide (¬ 0 < k) = !decide (0 < k) := by by_cases h : 0 < k <;> simp [h]
  have e1 : decide (bt nm (k - 1) < bt nm k) = !decide (bt nm k ≤ bt nm (k - 1)) := by by_cases h : bt nm k ≤ bt nm (k - 1) <;> simp [h] <;> omega
  have e2 : decide (97 ≤ bt nm k) = !decide (bt nm k < 97) := by by_cases h : bt nm k < 97 <;> simp [h] <;> omega
  have e3 : decide (bt nm k ≤ 122) = !decide (122 < bt nm k) := by by_cases h : 122 < bt nm k <;> simp [h] <;> omega
  have e4 : decide (zs.getD k 0 ≠ 0) = !(zs.getD k 0 == 0) := by generalize zs.getD k 0 = z; by_cases h : z = 0 <;> simp [h]
  rw [e0, e1, e2, e3, e4]
  cases decide (bt nm k < 97) <;> cases decide (122 < bt nm k) <;> cases decide (0 < k) <;> cases decide (bt nm k ≤ bt nm (k - 1)) <;> cases (zs.getD k 0 == 0) <;> cases inB (zs.getD k 0) (-6) 6 <;> simp
/-- Is this a formula? -/
def okFm (C : Ch) : Bool := okF C.dg C.tn && decide (C.nm.size ≤ 6) && decide (C.zs.length = C.nm.size) && ltrs C.nm C.zs C.nm.size
/-- Is this a chart? -/
def okCh (C : Ch) : Bool := okFm C && decide (C.nm.size = 2) && inB C.wd 1000 100000 && inB C.lf 100 20000 && inB C.rt 100 20000
theorem IsFigure_I (dg tn : Int) (w : World) :
    Calls Try.prog 53 #[.agg #[.int .i64 dg, .int .i64 tn]] w fun e w' => e = .returned (.bool (okF dg tn)) ∧ Below w.heap.size w w' := by
  by_cases h : inB dg 1000 9999 = true
  · have HV := Lib.hid (show okF dg tn = inB tn (-30) 30 by simp [okF, h])
    go_enter Try.func53, Try.ntmps53
    go_wp2_with (first | (go_at_call 21; refine (within_c _ _ _ _).mono ?_; rintro e w' ⟨rfl, rfl⟩))
    go_ret
    exact ⟨ret_bool HV.out.symm, by repeat (with_reducible first | exact Below.refl _ _ | assumption | refine Bel.alloc ?_ _ | refine Bel.step (by assumption) ?_ | refine Below.drew ?_ | refine Bel.drewN ?_ _ | refine Below.setCell ?_ (by first | exact Nat.le_refl _ | omega | (simp; done) | (simp; omega)) _)⟩
  · have h' : inB dg 1000 9999 = false := by simpa using h
    have HV := Lib.hid (show okF dg tn = false by simp [okF, h'])
    clear h
    go_enter Try.func53, Try.ntmps53
    go_wp2_with (first | (go_at_call 21; refine (within_c _ _ _ _).mono ?_; rintro e w' ⟨rfl, rfl⟩))
    go_ret
    exact ⟨ret_bool HV.out.symm, by repeat (with_reducible first | exact Below.refl _ _ | assumption | refine Bel.alloc ?_ _ | refine Bel.step (by assumption) ?_ | refine Below.drew ?_ | refine Bel.drewN ?_ _ | refine Below.setCell ?_ (by first | exact Nat.le_refl _ | omega | (simp; done) | (simp; omega)) _)⟩
theorem IsFigure_S (dg tn : Int) (w : World) :
    Calls Try.prog 10 #[.agg #[.int .i64 dg, .int .i64 tn]] w fun e w' => e = .returned (.bool (okF dg tn)) ∧ Below w.heap.size w w' := by
  by_cases h : inB dg 1000 9999 = true
  · have HV := Lib.hid (show okF dg tn = inB tn (-30) 30 by simp [okF, h])
    go_enter Try.func10, Try.ntmps10
    go_wp2_with (first | (go_at_call 14; refine (l01In_c _ _ _ _).mono ?_; rintro e w' ⟨rfl, rfl⟩))
    go_ret
    exact ⟨ret_bool HV.out.symm, by repeat (with_reducible first | exact Below.refl _ _ | assumption | refine Bel.alloc ?_ _ | refine Bel.step (by assumption) ?_ | refine Below.drew ?_ | refine Bel.drewN ?_ _ | refine Below.setCell ?_ (by first | exact Nat.le_refl _ | omega | (simp; done) | (simp; omega)) _)⟩
  · have h' : inB dg 1000 9999 = false := by simpa using h
    have HV := Lib.hid (show okF dg tn = false by simp [okF, h'])
    clear h
    go_enter Try.func10, Try.ntmps10
    go_wp2_with (first | (go_at_call 14; refine (l01In_c _ _ _ _).mono ?_; rintro e w' ⟨rfl, rfl⟩))
    go_ret
    exact ⟨ret_bool HV.out.symm, by repeat (with_reducible first | exact Below.refl _ _ | assumption | refine Bel.alloc ?_ _ | refine Bel.step (by assumption) ?_ | refine Below.drew ?_ | refine Bel.drewN ?_ _ | refine Below.setCell ?_ (by first | exact Nat.le_refl _ | omega | (simp; done) | (simp; omega)) _)⟩
end Go.Proofs.Ytlphcpmneioogaa
