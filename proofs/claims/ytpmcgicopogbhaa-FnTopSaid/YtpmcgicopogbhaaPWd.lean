/- Chapter 3: the two logarithms of a figure lie close. No conditions. -/
import Derived.Test.YtpmcgicopogbhaaProg
import Derived.Test.YtpmcgicopogbhaaBase
import Derived.Test.YtpmcgicopogbhaaL01
import Derived.Test.YtpmcgicopogbhaaCp
import Derived.Test.YtpmcgicopogbhaaL18
import Derived.Test.YtpmcgicopogbhaaL03
import Derived.WalkKit
import Derived.Lib.Hide
namespace Go.Proofs.Ytpmcgicopogbhaa
open Go.RowKit
set_option linter.unusedVariables false
def nLo : Nat → Nat → Nat → Nat
  | 0, _, c => c
  | n + 1, m, c => if 1000000000 ≤ m * m / 100000000 then nLo n (m * m / 100000000 / 10) (2 * c + 1) else nLo n (m * m / 100000000) (2 * c)
def nHi : Nat → Nat → Nat → Nat
  | 0, _, c => c
  | n + 1, m, c => if 1000000000 ≤ (m * m + 99999999) / 100000000 then nHi n (((m * m + 99999999) / 100000000 + 9) / 10) (2 * c + 1) else nHi n ((m * m + 99999999) / 100000000) (2 * c)
def nOk (d : Nat) : Bool := Nat.ble (nHi 20 (d * 100000) 0) (nLo 20 (d * 100000) 0 + 2)
def allOk : Nat → Nat → Bool
  | 0, _ => true
  | n + 1, d => nOk d && allOk n (d + 1)
theorem allOk_at {n d : Nat} (h : allOk n d = true) : ∀ i, d ≤ i → i < d + n → nOk i = true := by
  induction n generalizing d with
  | zero => intro i h1 h2; omega
  | succ n ih =>
    intro i h1 h2
    simp only [allOk, Bool.and_eq_true] at h
    by_cases he : i = d
    · subst he; exact h.1
    · exact ih h.2 i (by omega) (by omega)
set_option maxRecDepth 100000 in
theorem allOk_1 : allOk 1000 1000 = true := by decide +kernel
set_option maxRecDepth 100000 in
theorem allOk_2 : allOk 1000 2000 = true := by decide +kernel
set_option maxRecDepth 100000 in
theorem allOk_3 : allOk 1000 3000 = true := by decide +kernel
set_option maxRecDepth 100000 in
theorem allOk_4 : allOk 1000 4000 = true := by decide +kernel
set_option maxRecDepth 100000 in
theorem allOk_5 : allOk 1000 5000 = true := by decide +kernel
set_option maxRecDepth 100000 in
theorem allOk_6 : allOk 1000 6000 = true := by decide +kernel
set_option maxRecDepth 100000 in
theorem allOk_7 : allOk 1000 7000 = true := by decide +kernel
set_option maxRecDepth 100000 in
theorem allOk_8 : allOk 1000 8000 = true := by decide +kernel
set_option maxRecDepth 100000 in
theorem allOk_9 : allOk 1000 9000 = true := by decide +kernel
theorem nOk_all (d : Nat) (h1 : 1000 ≤ d) (h2 : d ≤ 9999) : nOk d = true := by
  by_cases h : d < 2000
  · exact allOk_at allOk_1 d (by omega) (by omega)
  by_cases h : d < 3000
  · exact allOk_at allOk_2 d (by omega) (by omega)
  by_cases h : d < 4000
  · exact allOk_at allOk_3 d (by omega) (by omega)
  by_cases h : d < 5000
  · exact allOk_at allOk_4 d (by omega) (by omega)
  by_cases h : d < 6000
  · exact allOk_at allOk_5 d (by omega) (by omega)
  by_cases h : d < 7000
  · exact allOk_at allOk_6 d (by omega) (by omega)
  by_cases h : d < 8000
  · exact allOk_at allOk_7 d (by omega) (by omega)
  by_cases h : d < 9000
  · exact allOk_at allOk_8 d (by omega) (by omega)
  · exact allOk_at allOk_9 d (by omega) (by omega)
def loI : Nat → Int × Int → Int × Int
  | 0, s => s
  | n + 1, s => loI n (loS s)
def hiI : Nat → Int × Int → Int × Int
  | 0, s => s
  | n + 1, s => hiI n (hiS s)
theorem loI_N (x : Int) (n : Nat) : ∀ k, loI n (loN x k) = loN x (k + n) := by
  induction n with
  | zero => intro k; rfl
  | succ n ih =>
    intro k
    have := ih (k + 1)
    rw [show k + 1 + n = k + (n + 1) by omega] at this
    exact this
theorem hiI_N (x : Int) (n : Nat) : ∀ k, hiI n (hiN x k) = hiN x (k + n) := by
  induction n with
  | zero => intro k; rfl
  | succ n ih =>
    intro k
    have := ih (k + 1)
    rw [show k + 1 + n = k + (n + 1) by omega] at this
    exact this
theorem Fl_nat (a b : Nat) (hb : 0 < b) : Fl (a : Int) (b : Int) = ((a / b : Nat) : Int) := by
  rw [Fl_pos _ _ (by omega)]; simp
theorem Cl_nat (a b : Nat) (hb : 0 < b) : Cl (a : Int) (b : Int) = (((a + (b - 1)) / b : Nat) : Int) := by
  have h1 := Nat.div_add_mod (a + (b - 1)) b
  have h2 := Nat.mod_lt (a + (b - 1)) hb
  generalize (a + (b - 1)) / b = q at *
  generalize (a + (b - 1)) % b = r at *
  have e : Fl (-(a : Int)) b = -(q : Int) := by
    unfold Fl
    refine fdiv_unique _ _ _ (.inl ⟨by omega, ?_, ?_⟩)
    · have : (b : Int) * (q : Int) = ((b * q : Nat) : Int) := by simp
      rw [Int.mul_neg, this]; omega
    · have : (b : Int) * (q : Int) = ((b * q : Nat) : Int) := by simp
      rw [Int.mul_neg, this]; omega
  unfold Cl
  rw [e]; omega
theorem loS_nat (m c : Nat) : loS ((m : Int), (c : Int)) = if 1000000000 ≤ m * m / 100000000 then (((m * m / 100000000 / 10 : Nat) : Int), ((2 * c + 1 : Nat) : Int)) else (((m * m / 100000000 : Nat) : Int), ((2 * c : Nat) : Int)) := by
  have e1 : Fl ((m : Int) * m) 100000000 = ((m * m / 100000000 : Nat) : Int) := by
    have := Fl_nat (m * m) 100000000 (by omega)
    rw [Int.natCast_mul] at this; exact this
  have e2 : Fl (((m * m / 100000000 : Nat) : Int)) 10 = ((m * m / 100000000 / 10 : Nat) : Int) := Fl_nat _ 10 (by omega)
  unfold loS
  simp only [e1, e2]
  split
  · rw [if_pos (by omega)]; simp
  · rw [if_neg (by omega)]; simp
theorem hiS_nat (m c : Nat) : hiS ((m : Int), (c : Int)) = if 1000000000 ≤ (m * m + 99999999) / 100000000 then (((((m * m + 99999999) / 100000000 + 9) / 10 : Nat) : Int), ((2 * c + 1 : Nat) : Int)) else ((((m * m + 99999999) / 100000000 : Nat) : Int), ((2 * c : Nat) : Int)) := by
  have e1 : Cl ((m : Int) * m) 100000000 = (((m * m + 99999999) / 100000000 : Nat) : Int) := by
    have := Cl_nat (m * m) 100000000 (by omega)
    rw [Int.natCast_mul] at this; exact this
  have e2 : Cl ((((m * m + 99999999) / 100000000 : Nat) : Int)) 10 = ((((m * m + 99999999) / 100000000 + 9) / 10 : Nat) : Int) := Cl_nat _ 10 (by omega)
  unfold hiS
  simp only [e1, e2]
  split
  · rw [if_pos (by omega)]; simp
  · rw [if_neg (by omega)]; simp
theorem nLo_I (n : Nat) : ∀ m c : Nat, ((nLo n m c : Nat) : Int) = (loI n ((m : Int), (c : Int))).2 := by
  induction n with
  | zero => intro m c; rfl
  | succ n ih =>
    intro m c
    unfold nLo loI
    rw [loS_nat]
    split
    · exact ih _ _
    · exact ih _ _
theorem nHi_I (n : Nat) : ∀ m c : Nat, ((nHi n m c : Nat) : Int) = (hiI n ((m : Int), (c : Int))).2 := by
  induction n with
  | zero => intro m c; rfl
  | succ n ih =>
    intro m c
    unfold nHi hiI
    rw [hiS_nat]
    split
    · exact ih _ _
    · exact ih _ _
/-- The two logarithms of a figure are at most 3 apart. -/
theorem fg_width {dg tn : Int} (h : okF dg tn = true) : fgHi dg tn - fgLo dg tn ≤ 3 := by
  obtain ⟨h1, h2, _, _⟩ := okF_iff h
  obtain ⟨d, rfl⟩ : ∃ d : Nat, dg = d := ⟨dg.toNat, by omega⟩
  have hk := nOk_all d (by omega) (by omega)
  have e : ((d : Int) * 100000) = ((d * 100000 : Nat) : Int) := by simp
  have l1 := nLo_I 20 (d * 100000) 0
  have l2 := nHi_I 20 (d * 100000) 0
  have l3 := loI_N ((d : Int) * 100000) 20 0
  have l4 := hiI_N ((d : Int) * 100000) 20 0
  rw [show loN ((d : Int) * 100000) 0 = ((d : Int) * 100000, 0) from rfl] at l3
  rw [show hiN ((d : Int) * 100000) 0 = ((d : Int) * 100000, 0) from rfl] at l4
  rw [← e, show ((0 : Nat) : Int) = 0 from rfl, l3] at l1
  rw [← e, show ((0 : Nat) : Int) = 0 from rfl, l4] at l2
  have hb : nHi 20 (d * 100000) 0 ≤ nLo 20 (d * 100000) 0 + 2 := Nat.le_of_ble_eq_true hk
  have g1 : lgLo ((d : Int) * 100000) = ((nLo 20 (d * 100000) 0 : Nat) : Int) := l1.symm
  have g2 : lgHi ((d : Int) * 100000) = ((nHi 20 (d * 100000) 0 : Nat) : Int) + 1 := by unfold lgHi; rw [l2]
  unfold fgHi fgLo
  rw [g1, g2]
  omega
end Go.Proofs.Ytpmcgicopogbhaa
