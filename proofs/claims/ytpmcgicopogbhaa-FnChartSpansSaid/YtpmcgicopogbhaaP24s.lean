/- Chapter 24: what the statement FnChartSpans says, plainly. No conditions. -/
import Derived.Test.YtpmcgicopogbhaaProg
import Derived.Test.YtpmcgicopogbhaaBase
import Derived.Test.YtpmcgicopogbhaaL01
import Derived.Test.YtpmcgicopogbhaaCp
import Derived.Test.YtpmcgicopogbhaaL18
import Derived.Test.YtpmcgicopogbhaaL23
import Derived.Test.YtpmcgicopogbhaaL03
import Derived.Test.YtpmcgicopogbhaaL04
import Derived.Test.YtpmcgicopogbhaaL23d
import Derived.Test.YtpmcgicopogbhaaL23e
import Derived.Test.YtpmcgicopogbhaaL23f
import Derived.Test.YtpmcgicopogbhaaL24
import Derived.Test.YtpmcgicopogbhaaL24b
import Derived.Test.YtpmcgicopogbhaaL24c
import Derived.Test.YtpmcgicopogbhaaL24d
import Derived.Test.YtpmcgicopogbhaaL24e
import Derived.Test.YtpmcgicopogbhaaL24f
import Derived.Test.YtpmcgicopogbhaaL24g
import Derived.Test.YtpmcgicopogbhaaL24s
import Derived.Test.YtpmcgicopogbhaaL24o
import Derived.Test.YtpmcgicopogbhaaL24p
import Derived.Test.YtpmcgicopogbhaaL27o
import Derived.Test.YtpmcgicopogbhaaM24
import Derived.WalkKit
import Derived.Lib.Hide
namespace Go.Proofs.Ytpmcgicopogbhaa
open Go.RowKit
set_option linter.unusedVariables false
theorem fst_mono {p q : Int → Bool} (h : ∀ t, q t = true → p t = true) (n : Nat) : ∀ lo, fst p lo n ≤ fst q lo n := by
  induction n with
  | zero => intro lo; exact Int.le_refl _
  | succ n ih =>
    intro lo
    unfold fst
    by_cases hp : p lo = true
    · rw [if_pos hp]
      split
      · omega
      · have := (fst_bd q n (lo + 1)).1; omega
    · rw [if_neg hp, if_neg (fun hq => hp (h _ hq))]
      exact ih _
theorem FL_lt_FH (n : Int) : FL n < FH n := fg_lt (by omega) (by omega)
theorem nBw_mono {u v : Int} (h : u ≤ v) : nBw u ≤ nBw v := by
  have := fst_mono (p := fun t => decide (u < FH t)) (q := fun t => decide (v < FH t)) (fun t ht => by simp only [decide_eq_true_eq] at *; omega) 549000 (-270000)
  unfold nBw; omega
theorem nAb_mono {u v : Int} (h : u ≤ v) : nAb u ≤ nAb v :=
  fst_mono (p := fun t => decide (u ≤ FL t)) (q := fun t => decide (v ≤ FL t)) (fun t ht => by simp only [decide_eq_true_eq] at *; omega) 549000 (-270000)
theorem nBw_nAb {u v : Int} (h : u ≤ v) : nBw u + 1 ≤ nAb v := by
  have := fst_mono (p := fun t => decide (u < FH t)) (q := fun t => decide (v ≤ FL t)) (fun t ht => by simp only [decide_eq_true_eq] at *; have := FL_lt_FH t; omega) 549000 (-270000)
  unfold nBw nAb; omega
theorem okF_num {n : Int} : okF (atD n) (atT n) = true ↔ -270000 ≤ n ∧ n ≤ 278999 := by
  unfold atD atT
  constructor
  · intro h
    obtain ⟨_, _, h1, h2⟩ := okF_iff h
    omega
  · intro ⟨h1, h2⟩
    unfold okF
    rw [inB_iff.2 ⟨by omega, by omega⟩, inB_iff.2 ⟨by omega, by omega⟩]; rfl
theorem fc_num {n m : Int} (h : n ≤ m) : fc (atD n) (atT n) (atD m) (atT m) ≤ 0 := by
  have : 10000 * (n / 9000) + (1000 + n % 9000) ≤ 10000 * (m / 9000) + (1000 + m % 9000) := by omega
  unfold fc atD atT
  split
  · omega
  · split <;> omega
/-- Does a figure lie between two others? -/
def btB (a b c d e f : Int) : Bool := okF a b && okF c d && okF e f && decide (fc a b c d ≤ 0) && decide (fc c d e f ≤ 0)
theorem btB_num {n m k : Int} (h1 : -270000 ≤ n) (h2 : n ≤ m) (h3 : m ≤ k) (h4 : k ≤ 278999) : btB (atD n) (atT n) (atD m) (atT m) (atD k) (atT k) = true := by
  unfold btB
  rw [okF_num.2 ⟨h1, by omega⟩, okF_num.2 ⟨by omega, by omega⟩, okF_num.2 ⟨by omega, h4⟩]
  simp [fc_num h2, fc_num h3]
/-- A span within another one. -/
theorem sp_in {A B L H : Int} (h : spC A B = 0) (h1 : A ≤ L) (h2 : L ≤ H) (h3 : H ≤ B) : spC L H = 0 ∧
    btB (atD (nBw A)) (atT (nBw A)) (atD (nBw L)) (atT (nBw L)) (atD (nAb B)) (atT (nAb B)) = true ∧
    btB (atD (nBw A)) (atT (nBw A)) (atD (nAb H)) (atT (nAb H)) (atD (nAb B)) (atT (nAb B)) = true := by
  unfold spC at h
  by_cases hr : (inB A (-31457280) 31457280 && inB B (-31457280) 31457280) = true
  · rw [if_pos hr] at h
    by_cases ho : (okF (atD (nBw A)) (atT (nBw A)) && okF (atD (nAb B)) (atT (nAb B))) = true
    · simp only [Bool.and_eq_true] at hr ho
      have a1 := inB_iff.1 hr.1
      have a2 := inB_iff.1 hr.2
      have b1 := okF_num.1 ho.1
      have b2 := okF_num.1 ho.2
      have c1 := nBw_mono h1
      have c2 := nAb_mono h3
      have c3 := nBw_nAb h2
      have c4 := nBw_nAb (Int.le_trans h1 h2)
      refine ⟨?_, btB_num b1.1 c1 (by omega) b2.2, btB_num b1.1 (by omega) c2 b2.2⟩
      unfold spC
      rw [inB_iff.2 (show -31457280 ≤ L ∧ L ≤ 31457280 by omega), inB_iff.2 (show -31457280 ≤ H ∧ H ≤ 31457280 by omega), okF_num.2 (show -270000 ≤ nBw L ∧ nBw L ≤ 278999 by omega), okF_num.2 (show -270000 ≤ nAb H ∧ nAb H ≤ 278999 by omega)]
      rfl
    · rw [if_neg ho] at h; cases h
  · rw [if_neg hr] at h; cases h
theorem rq_parts2 {C : Ch} {ud ut vd vt e : Int} (h : rqC C ud ut vd vt e = 0) : clC C e (okF ud ut && okF vd vt) = 0 ∧ lhC C ud ut vd vt = 0 := by
  unfold rqC at h
  by_cases hq : clC C e (okF ud ut && okF vd vt) = 0
  · rw [if_pos hq] at h; exact ⟨hq, h⟩
  · rw [if_neg hq] at h; exact absurd h hq
theorem clC_mk2 {C : Ch} {e : Int} {ok : Bool} (h1 : okCh C = true) (h2 : ok = true) (h3 : 0 ≤ e) (h4 : e ≤ 200) : clC C e ok = 0 := by
  have : inB e 0 200 = true := inB_iff.2 ⟨h3, h4⟩
  simp [clC, h1, h2, this]
/-- The span of the exact value lies in that of the readings. -/
theorem cs_es {C : Ch} {ud ut vd vt e : Int} (h : csC C ud ut vd vt e = 0) : esC C ud ut vd vt = 0 ∧
    btB (cs0 C ud ut vd vt e) (cs1 C ud ut vd vt e) (es0 C ud ut vd vt) (es1 C ud ut vd vt) (cs2 C ud ut vd vt e) (cs3 C ud ut vd vt e) = true ∧
    btB (cs0 C ud ut vd vt e) (cs1 C ud ut vd vt e) (es2 C ud ut vd vt) (es3 C ud ut vd vt) (cs2 C ud ut vd vt e) (cs3 C ud ut vd vt e) = true := by
  have hq : rqC C ud ut vd vt e = 0 := by
    unfold csC at h
    by_cases hq : rqC C ud ut vd vt e = 0
    · exact hq
    · rw [if_neg hq] at h; exact absurd h hq
  have hs : spC (rqL C ud ut vd vt e) (rqH C ud ut vd vt e) = 0 := by
    unfold csC at h
    rw [if_pos hq] at h; exact h
  obtain ⟨hc, hl⟩ := rq_parts2 hq
  obtain ⟨o1, o2, o3, e1, e2⟩ := clC_e hc
  have hc0 : clC C 0 (okF ud ut && okF vd vt) = 0 := clC_mk2 o1 (by simp [o2, o3]) (by omega) (by omega)
  obtain ⟨q1, q2, q3⟩ := rq_0 hc
  obtain ⟨i1, i2⟩ := rd_in o1 hl e1
  have hf := fm_le o1 ud ut vd vt
  obtain ⟨k1, k2, k3⟩ := sp_in hs (L := fmL C ud ut vd vt) (H := fmH C ud ut vd vt) (by rw [q2]; exact i1) hf (by rw [q3]; exact i2)
  have hv : ∀ x, csV C ud ut vd vt e x = x := fun x => by simp [csV, hq, spV, hs]
  have hw : ∀ x, esV C ud ut vd vt x = x := fun x => by simp [esV, hc0, spV, k1]
  refine ⟨by simp [esC, hc0, k1], ?_, ?_⟩
  · simp only [cs0, cs1, cs2, cs3, es0, es1, hv, hw]; exact k2
  · simp only [cs0, cs1, cs2, cs3, es2, es3, hv, hw]; exact k3
/-- More error of the eye never takes a figure from the line. -/
theorem ol_more {C : Ch} {ud ut vd vt xd xt e : Int} (h : olC C ud ut vd vt xd xt e = 0) (he : e < 200) : olC C ud ut vd vt xd xt (e + 1) = 0 ∧ (olB C ud ut vd vt xd xt e = true → olB C ud ut vd vt xd xt (e + 1) = true) := by
  have hk : olK C ud ut vd vt xd xt e = 0 := by
    unfold olC at h
    by_cases hk : olK C ud ut vd vt xd xt e = 0
    · exact hk
    · rw [if_neg hk] at h; exact absurd h hk
  have hl : lhC C ud ut vd vt = 0 := by
    unfold olC at h
    rw [if_pos hk] at h; exact h
  have hk' := hk
  unfold olK at hk'
  have hp : okCh C = true ∧ (okF ud ut && okF vd vt && okF xd xt) = true ∧ 0 ≤ e := by
    unfold clC at hk'
    by_cases h1 : (okCh C && (okF ud ut && okF vd vt && okF xd xt)) = true
    · rw [if_pos h1] at hk'
      by_cases h2 : inB e 0 200 = true
      · simp only [Bool.and_eq_true] at h1 ⊢
        exact ⟨h1.1, h1.2, (inB_iff.1 h2).1⟩
      · rw [if_neg h2] at hk'; cases hk'
    · rw [if_neg h1] at hk'; cases hk'
  have hk2 : olK C ud ut vd vt xd xt (e + 1) = 0 := clC_mk2 hp.1 hp.2.1 (by omega) (by omega)
  have hc2 : olC C ud ut vd vt xd xt (e + 1) = 0 := by simp [olC, hk2, hl]
  refine ⟨hc2, fun hb => ?_⟩
  have hm := rd_mono (C := C) (ud := ud) (ut := ut) (vd := vd) (vt := vt) hp.1 hl (show e ≤ e + 1 by omega)
  unfold olB at hb ⊢
  rw [if_pos h] at hb
  rw [if_pos hc2]
  unfold mtB at hb ⊢
  simp only [Bool.and_eq_true, decide_eq_true_eq] at hb ⊢
  omega
end Go.Proofs.Ytpmcgicopogbhaa
