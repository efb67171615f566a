/- Chapter 24: spans within spans. No conditions. -/
import Derived.Test.YtpmcgicopogbhaaGreatProg
import Derived.Test.YtpmcgicopogbhaaGreatBase
import Derived.Test.YtpmcgicopogbhaaGreatL01
import Derived.Test.YtpmcgicopogbhaaGreatCp
import Derived.Test.YtpmcgicopogbhaaGreatL18
import Derived.Test.YtpmcgicopogbhaaGreatL23
import Derived.Test.YtpmcgicopogbhaaGreatL03
import Derived.Test.YtpmcgicopogbhaaGreatL04
import Derived.Test.YtpmcgicopogbhaaGreatL23d
import Derived.Test.YtpmcgicopogbhaaGreatL23e
import Derived.Test.YtpmcgicopogbhaaGreatL24
import Derived.Test.YtpmcgicopogbhaaGreatL24b
import Derived.Test.YtpmcgicopogbhaaGreatL24c
import Derived.Test.YtpmcgicopogbhaaGreatL24f
import Derived.Test.YtpmcgicopogbhaaGreatL24g
import Derived.Test.YtpmcgicopogbhaaGreatL24s
import Derived.Test.YtpmcgicopogbhaaGreatL27o
import Derived.Test.YtpmcgicopogbhaaGreatM24
import Derived.WalkKit
import Derived.Lib.Hide
namespace Go.Proofs.YtpmcgicopogbhaaGreat
open Go.RowKit
set_option linter.unusedVariables false
theorem fst_mono {p q : Int → Bool} (h : ∀ t, q t = true → p t = true) (n : Nat) : ∀ lo, fst p lo n ≤ fst q lo n := by
  induction n with
  | zero => intro lo; exact Int.le_refl _
  | succ n ih =>
    intro lo
    unfold fst
    by_cases hp : p lo = true
    · rw [if_pos hp]
      split
      · omega
      · have := (fst_bd q n (lo + 1)).1; omega
    · rw [if_neg hp, if_neg (fun hq => hp (h _ hq))]
      exact ih _
theorem FL_lt_FH (n : Int) : FL n < FH n := fg_lt (by omega) (by omega)
theorem nBw_mono {u v : Int} (h : u ≤ v) : nBw u ≤ nBw v := by
  have := fst_mono (p := fun t => decide (u < FH t)) (q := fun t => decide (v < FH t)) (fun t ht => by simp only [decide_eq_true_eq] at *; omega) 549000 (-270000)
  unfold nBw; omega
theorem nAb_mono {u v : Int} (h : u ≤ v) : nAb u ≤ nAb v :=
  fst_mono (p := fun t => decide (u ≤ FL t)) (q := fun t => decide (v ≤ FL t)) (fun t ht => by simp only [decide_eq_true_eq] at *; omega) 549000 (-270000)
theorem nBw_nAb {u v : Int} (h : u ≤ v) : nBw u + 1 ≤ nAb v := by
  have := fst_mono (p := fun t => decide (u < FH t)) (q := fun t => decide (v ≤ FL t)) (fun t ht => by simp only [decide_eq_true_eq] at *; have := FL_lt_FH t; omega) 549000 (-270000)
  unfold nBw nAb; omega
theorem okF_num {n : Int} : okF (atD n) (atT n) = true ↔ -270000 ≤ n ∧ n ≤ 278999 := by
  unfold atD atT
  constructor
  · intro h
    obtain ⟨_, _, h1, h2⟩ := okF_iff h
    omega
  · intro ⟨h1, h2⟩
    unfold okF
    rw [inB_iff.2 ⟨by omega, by omega⟩, inB_iff.2 ⟨by omega, by omega⟩]; rfl
theorem fc_num {n m : Int} (h : n ≤ m) : fc (atD n) (atT n) (atD m) (atT m) ≤ 0 := by
  have : 10000 * (n / 9000) + (1000 + n % 9000) ≤ 10000 * (m / 9000) + (1000 + m % 9000) := by omega
  unfold fc atD atT
  split
  · omega
  · split <;> omega
/-- Does a figure lie between two others? -/
def btB (a b c d e f : Int) : Bool := okF a b && okF c d && okF e f && decide (fc a b c d ≤ 0) && decide (fc c d e f ≤ 0)
theorem btB_num {n m k : Int} (h1 : -270000 ≤ n) (h2 : n ≤ m) (h3 : m ≤ k) (h4 : k ≤ 278999) : btB (atD n) (atT n) (atD m) (atT m) (atD k) (atT k) = true := by
  unfold btB
  rw [okF_num.2 ⟨h1, by omega⟩, okF_num.2 ⟨by omega, by omega⟩, okF_num.2 ⟨by omega, h4⟩]
  simp [fc_num h2, fc_num h3]
/-- A span within another one. -/
theorem sp_in {A B L H : Int} (h : spC A B = 0) (h1 : A ≤ L) (h2 : L ≤ H) (h3 : H ≤ B) : spC L H = 0 ∧
    btB (atD (nBw A)) (atT (nBw A)) (atD (nBw L)) (atT (nBw L)) (atD (nAb B)) (atT (nAb B)) = true ∧
    btB (atD (nBw A)) (atT (nBw A)) (atD (nAb H)) (atT (nAb H)) (atD (nAb B)) (atT (nAb B)) = true := by
  unfold spC at h
  by_cases hr : (inB A (-31457280) 31457280 && inB B (-31457280) 31457280) = true
  · rw [if_pos hr] at h
    by_cases ho : (okF (atD (nBw A)) (atT (nBw A)) && okF (atD (nAb B)) (atT (nAb B))) = true
    · simp only [Bool.and_eq_true] at hr ho
      have a1 := inB_iff.1 hr.1
      have a2 := inB_iff.1 hr.2
      have b1 := okF_num.1 ho.1
      have b2 := okF_num.1 ho.2
      have c1 := nBw_mono h1
      have c2 := nAb_mono h3
      have c3 := nBw_nAb h2
      have c4 := nBw_nAb (Int.le_trans h1 h2)
      refine ⟨?_, btB_num b1.1 c1 (by omega) b2.2, btB_num b1.1 (by omega) c2 b2.2⟩
      unfold spC
      rw [inB_iff.2 (show -31457280 ≤ L ∧ L ≤ 31457280 by omega), inB_iff.2 (show -31457280 ≤ H ∧ H ≤ 31457280 by omega), okF_num.2 (show -270000 ≤ nBw L ∧ nBw L ≤ 278999 by omega), okF_num.2 (show -270000 ≤ nAb H ∧ nAb H ≤ 278999 by omega)]
      rfl
    · rw [if_neg ho] at h; cases h
  · rw [if_neg hr] at h; cases h
theorem rq_parts2 {C : Ch} {ud ut vd vt e : Int} (h : rqC C ud ut vd vt e = 0) : clC C e (okF ud ut && okF vd vt) = 0 ∧ lhC C ud ut vd vt = 0 := by
  unfold rqC at h
  by_cases hq : clC C e (okF ud ut && okF vd vt) = 0
  · rw [if_pos hq] at h; exact ⟨hq, h⟩
  · rw [if_neg hq] at h; exact absurd h hq
theorem clC_mk2 {C : Ch} {e : Int} {ok : Bool} (h1 : okCh C = true) (h2 : ok = true) (h3 : 0 ≤ e) (h4 : e ≤ 200) : clC C e ok = 0 := by
  have : inB e 0 200 = true := inB_iff.2 ⟨h3, h4⟩
  simp [clC, h1, h2, this]
end Go.Proofs.YtpmcgicopogbhaaGreat
