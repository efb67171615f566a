/- Chapter 25: what the statements FnProjections and FnComposed say, plainly. No conditions. -/
import Derived.Test.YthfphjbaglgacaaProg
import Derived.Test.YthfphjbaglgacaaBase
import Derived.Test.YthfphjbaglgacaaL01
import Derived.Test.YthfphjbaglgacaaCp
import Derived.Test.YthfphjbaglgacaaL22
import Derived.Test.YthfphjbaglgacaaL25
import Derived.Test.YthfphjbaglgacaaL25b
import Derived.Test.YthfphjbaglgacaaL25c
import Derived.Test.YthfphjbaglgacaaL25d
import Derived.Test.YthfphjbaglgacaaL25e
import Derived.Test.YthfphjbaglgacaaL25f
import Derived.Test.YthfphjbaglgacaaL25g
import Derived.Test.YthfphjbaglgacaaL25h
import Derived.WalkKit
import Derived.Lib.Hide
namespace Go.Proofs.Ythfphjbaglgacaa
open Go.RowKit
set_option linter.unusedVariables false
theorem Gc_dvd (a b : Int) : Gc a b ∣ a ∧ Gc a b ∣ b := ⟨Int.gcd_dvd_left a b, Int.gcd_dvd_right a b⟩
theorem Gc3_dvd (x y z : Int) : Gc (Gc x y) z ∣ x ∧ Gc (Gc x y) z ∣ y ∧ Gc (Gc x y) z ∣ z :=
  ⟨Int.dvd_trans (Gc_dvd _ _).1 (Gc_dvd x y).1, Int.dvd_trans (Gc_dvd _ _).1 (Gc_dvd x y).2, (Gc_dvd _ _).2⟩
theorem red_mul {x y z : Int} (hz : z ≠ 0) : ∃ c : Int, c ≠ 0 ∧ x = c * redQ x y z x ∧ y = c * redQ x y z y ∧ z = c * redQ x y z z := by
  obtain ⟨d1, d2, d3⟩ := Gc3_dvd x y z
  have hg : Gc (Gc x y) z ≠ 0 := fun h => hz (Gc_eq_zero h).2
  unfold redQ
  generalize Gc (Gc x y) z = g at *
  have e1 := Int.mul_tdiv_cancel' d1
  have e2 := Int.mul_tdiv_cancel' d2
  have e3 := Int.mul_tdiv_cancel' d3
  by_cases hn : z < 0
  · refine ⟨-g, by omega, ?_, ?_, ?_⟩ <;> rw [if_pos hn, Int.neg_mul_neg]
    · exact e1.symm
    · exact e2.symm
    · exact e3.symm
  · refine ⟨g, hg, ?_, ?_, ?_⟩ <;> rw [if_neg hn]
    · exact e1.symm
    · exact e2.symm
    · exact e3.symm
theorem Gc_mul (s a b : Int) : Gc (s * a) (s * b) = (s.natAbs : Int) * Gc a b := by
  unfold Gc; rw [Int.gcd_mul_left]; simp
theorem Gc3_mul (s a b c : Int) : Gc (Gc (s * a) (s * b)) (s * c) = (s.natAbs : Int) * Gc (Gc a b) c := by
  rw [Gc_mul]
  unfold Gc
  rw [show s.natAbs * ((Int.gcd a b : Nat) : Int) = ((s.natAbs * Int.gcd a b : Nat) : Int) by simp, ← Int.natCast_mul]
  congr 1
  simp only [Int.gcd, Int.natAbs_mul, Int.natAbs_natCast]
  rw [Nat.gcd_mul_left]
theorem ratB_iff {x y z : Int} (h : ratB x y z = true) : 1 ≤ z ∧ Gc (Gc x y) z = 1 := by
  simp only [ratB, Bool.and_eq_true, decide_eq_true_eq] at h
  exact ⟨(inB_iff.1 h.1.2).1, h.2⟩
theorem rat_uniq {a b c x y z s t : Int} (h : ratB a b c = true) (k : ratB x y z = true) (hs : s ≠ 0) (e1 : s * a = t * x) (e2 : s * b = t * y) (e3 : s * c = t * z) : a = x ∧ b = y ∧ c = z := by
  obtain ⟨h1, h2⟩ := ratB_iff h
  obtain ⟨k1, k2⟩ := ratB_iff k
  have g1 := Gc3_mul s a b c
  have g2 := Gc3_mul t x y z
  rw [e1, e2, e3, g2, h2, k2] at g1
  have hst : t = s := by
    have h3 : t = s ∨ t = -s := by omega
    rcases h3 with h3 | h3
    · exact h3
    · exfalso
      subst h3
      have : s * (c + z) = 0 := by rw [Int.mul_add, e3, Int.neg_mul]; omega
      rcases Int.mul_eq_zero.1 this with h4 | h4
      · exact hs h4
      · omega
  subst hst
  exact ⟨Int.eq_of_mul_eq_mul_left hs e1, Int.eq_of_mul_eq_mul_left hs e2, Int.eq_of_mul_eq_mul_left hs e3⟩
/-- A point has an image: what is known of it. -/
theorem prj_is {m : List Int} {x y z : Int} (h : prjC m x y z = 0) : isPr m = true ∧ ratB x y z = true ∧ ratB (prjV m x y z 0) (prjV m x y z 1) (prjV m x y z 2) = true ∧ rowV m 2 x y z ≠ 0 ∧
    ∃ c : Int, c ≠ 0 ∧ rowV m 0 x y z = c * prjV m x y z 0 ∧ rowV m 1 x y z = c * prjV m x y z 1 ∧ rowV m 2 x y z = c * prjV m x y z 2 := by
  by_cases h1 : (isPr m && ratB x y z) = true
  · obtain ⟨p1, p2⟩ : isPr m = true ∧ ratB x y z = true := by simpa using h1
    by_cases h2 : rowV m 2 x y z = 0
    · rw [(prj_5 p1 p2 h2).1] at h; cases h
    · cases h3 : smlB9 x y z with
      | false => rw [(prj_3 p1 p2 h2 h3).1] at h; cases h
      | true =>
        obtain ⟨e1, e2⟩ := prj_0 p1 p2 h2 h3
        rw [e1] at h
        have h4 : ratB (redQ (rowV m 0 x y z) (rowV m 1 x y z) (rowV m 2 x y z) (rowV m 0 x y z)) (redQ (rowV m 0 x y z) (rowV m 1 x y z) (rowV m 2 x y z) (rowV m 1 x y z)) (redQ (rowV m 0 x y z) (rowV m 1 x y z) (rowV m 2 x y z) (rowV m 2 x y z)) = true := by
          cases h5 : ratB (redQ (rowV m 0 x y z) (rowV m 1 x y z) (rowV m 2 x y z) (rowV m 0 x y z)) (redQ (rowV m 0 x y z) (rowV m 1 x y z) (rowV m 2 x y z) (rowV m 1 x y z)) (redQ (rowV m 0 x y z) (rowV m 1 x y z) (rowV m 2 x y z) (rowV m 2 x y z)) with
          | true => rfl
          | false => rw [(redC_3 h2 h5).1] at h; cases h
        obtain ⟨_, e3⟩ := redC_0 h2 h4
        obtain ⟨c, hc, c1, c2, c3⟩ := red_mul (x := rowV m 0 x y z) (y := rowV m 1 x y z) h2
        refine ⟨p1, p2, ?_, h2, c, hc, ?_, ?_, ?_⟩
        · rw [e2, e2, e2, e3, e3, e3]; exact h4
        · rw [e2, e3]; exact c1
        · rw [e2, e3]; exact c2
        · rw [e2, e3]; exact c3
  · rw [(prj_1 (by simpa using h1)).1] at h; cases h
/-- A valid projection and a valid point: the code is one of four. -/
theorem prj_codes {m : List Int} {x y z : Int} (h1 : isPr m = true) (h2 : ratB x y z = true) (h3 : rowV m 2 x y z ≠ 0) : prjC m x y z = 0 ∨ prjC m x y z = 3 := by
  cases h4 : smlB9 x y z with
  | false => exact .inr (prj_3 h1 h2 h3 h4).1
  | true =>
    rw [(prj_0 h1 h2 h3 h4).1]
    unfold redC
    rw [if_neg h3]
    split
    · exact .inl rfl
    · exact .inr rfl
theorem gcL_dvd {zs : List Int} : ∀ x ∈ zs, gcL zs ∣ x := by
  have key : ∀ k, k ≤ zs.length → ∀ i (hi : i < k) (hl : i < zs.length), gcL (zs.take k) ∣ zs[i] := by
    intro k
    induction k with
    | zero => intro _ i hi; omega
    | succ k ih =>
      intro hk i hi hl
      rw [gcL_step zs k (by omega)]
      by_cases hik : i = k
      · subst hik; exact (Gc_dvd _ _).2
      · exact Int.dvd_trans (Gc_dvd _ _).1 (ih (by omega) i (by omega) hl)
  intro x hx
  obtain ⟨i, hi, rfl⟩ := List.getElem_of_mem hx
  have := key zs.length (Nat.le_refl _) i hi hi
  rwa [List.take_length] at this
theorem redM_mul {m : List Int} (e : Nat) (h : e < m.length) : m.getD e 0 = gcL m * (redM m).getD e 0 := by
  rw [getD_at _ _ _ h, getD_at _ _ _ (by rw [redM_len]; exact h)]
  simp only [redM, List.getElem_map]
  exact (Int.mul_tdiv_cancel' (gcL_dvd _ (List.getElem_mem h))).symm
theorem low_is {m : List Int} (h : lowC m = 0) : isPr (lowL m) = true ∧ ∀ e, e < m.length → m.getD e 0 = gcL m * (lowL m).getD e 0 := by
  unfold lowC at h
  by_cases h1 : isPr (redM m) = true
  · have e1 : lowL m = redM m := by simp [lowL, h1]
    rw [e1]
    exact ⟨h1, fun e he => redM_mul e he⟩
  · rw [if_neg h1] at h; cases h
theorem invL_get (m : List Int) (e : Nat) (h : e < 9) : (invL m 9).getD e 0 = invE m e := by
  rw [getD_at _ _ _ (by rw [invL_len]; exact h)]
  simp [invL]
theorem inv_is {m : List Int} (h : invC m = 0) : isPr m = true ∧ isPr (invR m) = true ∧ ∃ g : Int, g ≠ 0 ∧ ∀ e, e < 9 → invE m e = g * (invR m).getD e 0 := by
  unfold invC at h
  by_cases h1 : isPr m = true
  · rw [if_pos h1] at h
    have e1 : invR m = lowL (invL m 9) := by simp [invR, h1]
    obtain ⟨k1, k2⟩ := low_is h
    rw [e1]
    exact ⟨h1, k1, gcL (invL m 9), inv_gc (isPr_iff h1).2.2, fun e he => by rw [← invL_get m e he]; exact k2 e (by rw [invL_len]; exact he)⟩
  · rw [if_neg h1] at h; cases h
theorem minV_any (m : List Int) : (minV m 0 0 = m.getD 4 0 * m.getD 8 0 - m.getD 5 0 * m.getD 7 0 ∧ minV m 0 1 = m.getD 3 0 * m.getD 8 0 - m.getD 5 0 * m.getD 6 0 ∧ minV m 0 2 = m.getD 3 0 * m.getD 7 0 - m.getD 4 0 * m.getD 6 0) ∧
    (minV m 1 0 = m.getD 1 0 * m.getD 8 0 - m.getD 2 0 * m.getD 7 0 ∧ minV m 1 1 = m.getD 0 0 * m.getD 8 0 - m.getD 2 0 * m.getD 6 0 ∧ minV m 1 2 = m.getD 0 0 * m.getD 7 0 - m.getD 1 0 * m.getD 6 0) ∧
    (minV m 2 0 = m.getD 1 0 * m.getD 5 0 - m.getD 2 0 * m.getD 4 0 ∧ minV m 2 1 = m.getD 0 0 * m.getD 5 0 - m.getD 2 0 * m.getD 3 0 ∧ minV m 2 2 = m.getD 0 0 * m.getD 4 0 - m.getD 1 0 * m.getD 3 0) := by
  simp [minV, minL]
theorem det_is (m : List Int) : detV m = m.getD 0 0 * (m.getD 4 0 * m.getD 8 0 - m.getD 5 0 * m.getD 7 0) - m.getD 1 0 * (m.getD 3 0 * m.getD 8 0 - m.getD 5 0 * m.getD 6 0) + m.getD 2 0 * (m.getD 3 0 * m.getD 7 0 - m.getD 4 0 * m.getD 6 0) := by
  rw [detV, (minV_any m).1.1, (minV_any m).1.2.1, (minV_any m).1.2.2]
theorem inv_back {m : List Int} {x y z : Int} (h : prjC m x y z = 0) (hi : invC m = 0) :
    prjC (invR m) (prjV m x y z 0) (prjV m x y z 1) (prjV m x y z 2) ≠ 5 ∧ (prjC (invR m) (prjV m x y z 0) (prjV m x y z 1) (prjV m x y z 2) = 0 →
      prjV (invR m) (prjV m x y z 0) (prjV m x y z 1) (prjV m x y z 2) 0 = x ∧ prjV (invR m) (prjV m x y z 0) (prjV m x y z 1) (prjV m x y z 2) 1 = y ∧ prjV (invR m) (prjV m x y z 0) (prjV m x y z 1) (prjV m x y z 2) 2 = z) := by
  obtain ⟨p1, p2, p3, p4, c, hc, c0, c1, c2⟩ := prj_is h
  obtain ⟨_, q2, g, hg, qe⟩ := inv_is hi
  have hd := (isPr_iff p1).2.2
  rw [det_is] at hd
  obtain ⟨⟨m00, m01, m02⟩, ⟨m10, m11, m12⟩, ⟨m20, m21, m22⟩⟩ := minV_any m
  have i0 := qe 0 (by omega)
  have i1 := qe 1 (by omega)
  have i2 := qe 2 (by omega)
  have i3 := qe 3 (by omega)
  have i4 := qe 4 (by omega)
  have i5 := qe 5 (by omega)
  have i6 := qe 6 (by omega)
  have i7 := qe 7 (by omega)
  have i8 := qe 8 (by omega)
  simp [invE, -List.getD_eq_getElem?_getD] at i0 i1 i2 i3 i4 i5 i6 i7 i8
  rw [m00] at i0
  rw [m10] at i1
  rw [m20] at i2
  rw [m01] at i3
  rw [m11] at i4
  rw [m21] at i5
  rw [m02] at i6
  rw [m12] at i7
  rw [m22] at i8
  have key : ∀ k, k < 3 → g * c * rowV (invR m) k (prjV m x y z 0) (prjV m x y z 1) (prjV m x y z 2) = (m.getD 0 0 * (m.getD 4 0 * m.getD 8 0 - m.getD 5 0 * m.getD 7 0) - m.getD 1 0 * (m.getD 3 0 * m.getD 8 0 - m.getD 5 0 * m.getD 6 0) + m.getD 2 0 * (m.getD 3 0 * m.getD 7 0 - m.getD 4 0 * m.getD 6 0)) * (if k = 0 then x else if k = 1 then y else z) := by
    intro k hk
    simp only [rowV] at c0 c1 c2
    simp only [Nat.mul_zero, Nat.mul_one, Nat.zero_add, Nat.reduceMul, Nat.reduceAdd] at c0 c1 c2
    have hk : k = 0 ∨ k = 1 ∨ k = 2 := by omega
    generalize prjV m x y z 0 = v0 at *
    generalize prjV m x y z 1 = v1 at *
    generalize prjV m x y z 2 = v2 at *
    generalize m.getD 0 0 = d0 at *
    generalize m.getD 1 0 = d1 at *
    generalize m.getD 2 0 = d2 at *
    generalize m.getD 3 0 = d3 at *
    generalize m.getD 4 0 = d4 at *
    generalize m.getD 5 0 = d5 at *
    generalize m.getD 6 0 = d6 at *
    generalize m.getD 7 0 = d7 at *
    generalize m.getD 8 0 = d8 at *
    simp only [rowV]
    generalize (invR m) = I at *
    rcases hk with rfl | rfl | rfl
    · simp only [Nat.mul_zero, Nat.zero_add, if_pos]
      generalize I.getD 0 0 = a0 at *
      generalize I.getD 1 0 = a1 at *
      generalize I.getD 2 0 = a2 at *
      clear i3 i4 i5 i6 i7 i8 qe h hi p1 p2 p3 p4 q2 hd m00 m01 m02 m10 m11 m12 m20 m21 m22
      have e : g * c * (a0 * v0 + a1 * v1 + a2 * v2) = (g * a0) * (c * v0) + (g * a1) * (c * v1) + (g * a2) * (c * v2) := by grind
      rw [e, ← i0, ← c0, ← c1, ← c2, ← i1, ← i2]
      grind
    · simp only [Nat.mul_one, Nat.reduceAdd, Nat.one_ne_zero, if_pos, if_neg, not_false_eq_true]
      generalize I.getD 3 0 = a0 at *
      generalize I.getD 4 0 = a1 at *
      generalize I.getD 5 0 = a2 at *
      clear i0 i1 i2 i6 i7 i8 qe h hi p1 p2 p3 p4 q2 hd m00 m01 m02 m10 m11 m12 m20 m21 m22
      have e : g * c * (a0 * v0 + a1 * v1 + a2 * v2) = (g * a0) * (c * v0) + (g * a1) * (c * v1) + (g * a2) * (c * v2) := by grind
      rw [e, ← i3, ← c0, ← c1, ← c2, ← i4, ← i5]
      grind
    · simp only [Nat.reduceMul, Nat.reduceAdd]
      generalize I.getD 6 0 = a0 at *
      generalize I.getD 7 0 = a1 at *
      generalize I.getD 8 0 = a2 at *
      clear i0 i1 i2 i3 i4 i5 qe h hi p1 p2 p3 p4 q2 hd m00 m01 m02 m10 m11 m12 m20 m21 m22
      have e : g * c * (a0 * v0 + a1 * v1 + a2 * v2) = (g * a0) * (c * v0) + (g * a1) * (c * v1) + (g * a2) * (c * v2) := by grind
      rw [e, ← i6, ← c0, ← c1, ← c2, ← i7, ← i8]
      simp
      grind
  have k0 := key 0 (by omega)
  have k1 := key 1 (by omega)
  have k2 := key 2 (by omega)
  simp only [if_pos, if_neg, Nat.one_ne_zero, not_false_eq_true] at k0 k1 k2
  simp only [show ¬ (2 = 0) from by omega, show ¬ (2 = 1) from by omega, if_false] at k2
  clear i0 i1 i2 i3 i4 i5 i6 i7 i8 m00 m01 m02 m10 m11 m12 m20 m21 m22 key qe c0 c1 c2
  generalize m.getD 0 0 * (m.getD 4 0 * m.getD 8 0 - m.getD 5 0 * m.getD 7 0) - m.getD 1 0 * (m.getD 3 0 * m.getD 8 0 - m.getD 5 0 * m.getD 6 0) + m.getD 2 0 * (m.getD 3 0 * m.getD 7 0 - m.getD 4 0 * m.getD 6 0) = D at *
  have hz := (ratB_iff p2).1
  have hr2 : rowV (invR m) 2 (prjV m x y z 0) (prjV m x y z 1) (prjV m x y z 2) ≠ 0 := by
    intro h0
    rw [h0, Int.mul_zero] at k2
    rcases Int.mul_eq_zero.1 k2.symm with h1 | h1
    · exact hd h1
    · omega
  refine ⟨fun h5 => ?_, fun h0 => ?_⟩
  · rcases prj_codes q2 p3 hr2 with h6 | h6 <;> rw [h6] at h5 <;> cases h5
  · obtain ⟨_, _, s3, _, t, ht, t0, t1, t2⟩ := prj_is h0
    rw [t0] at k0
    rw [t1] at k1
    rw [t2] at k2
    refine rat_uniq (s := g * c * t) (t := D) s3 p2 ?_ (by rw [Int.mul_assoc]; exact k0) (by rw [Int.mul_assoc]; exact k1) (by rw [Int.mul_assoc]; exact k2)
    intro h1
    rcases Int.mul_eq_zero.1 h1 with h2 | h2
    · rcases Int.mul_eq_zero.1 h2 with h3 | h3
      · exact hg h3
      · exact hc h3
    · exact ht h2
theorem det_prod (d0 d1 d2 d3 d4 d5 d6 d7 d8 a b c e f g h i j : Int) :
    (d0*a+d1*b+d2*c) * ((d3*e+d4*f+d5*g) * (d6*h+d7*i+d8*j) - (d6*e+d7*f+d8*g) * (d3*h+d4*i+d5*j)) - (d3*a+d4*b+d5*c) * ((d0*e+d1*f+d2*g) * (d6*h+d7*i+d8*j) - (d6*e+d7*f+d8*g) * (d0*h+d1*i+d2*j)) + (d6*a+d7*b+d8*c) * ((d0*e+d1*f+d2*g) * (d3*h+d4*i+d5*j) - (d3*e+d4*f+d5*g) * (d0*h+d1*i+d2*j))
      = (d0 * (d4 * d8 - d5 * d7) - d1 * (d3 * d8 - d5 * d6) + d2 * (d3 * d7 - d4 * d6)) * (a * (f * j - g * i) - b * (e * j - g * h) + c * (e * i - f * h)) := by grind
theorem det9 (a b c d e f g h i : Int) : detV [a, b, c, d, e, f, g, h, i] = a * (e * i - f * h) - b * (d * i - f * g) + c * (d * h - e * g) := by
  rw [det_is]; simp [List.getD]
/-- Images of points in line are in line. -/
theorem line_kept {m : List Int} {a b c d e f g h i : Int} (h1 : prjC m a b c = 0) (h2 : prjC m d e f = 0) (h3 : prjC m g h i = 0) :
    (detV [prjV m a b c 0, prjV m a b c 1, prjV m a b c 2, prjV m d e f 0, prjV m d e f 1, prjV m d e f 2, prjV m g h i 0, prjV m g h i 1, prjV m g h i 2] = 0 ↔ detV [a, b, c, d, e, f, g, h, i] = 0) := by
  obtain ⟨p1, _, _, _, r, hr, r0, r1, r2⟩ := prj_is h1
  obtain ⟨_, _, _, _, s, hs, s0, s1, s2⟩ := prj_is h2
  obtain ⟨_, _, _, _, t, ht, t0, t1, t2⟩ := prj_is h3
  have hd := (isPr_iff p1).2.2
  rw [det_is] at hd
  have hp := det_prod (m.getD 0 0) (m.getD 1 0) (m.getD 2 0) (m.getD 3 0) (m.getD 4 0) (m.getD 5 0) (m.getD 6 0) (m.getD 7 0) (m.getD 8 0) a b c d e f g h i
  simp only [rowV, Nat.mul_zero, Nat.mul_one, Nat.zero_add, Nat.reduceMul, Nat.reduceAdd] at r0 r1 r2 s0 s1 s2 t0 t1 t2
  rw [r0, r1, r2, s0, s1, s2, t0, t1, t2] at hp
  rw [det9, det9]
  generalize prjV m a b c 0 = u0 at *
  generalize prjV m a b c 1 = u1 at *
  generalize prjV m a b c 2 = u2 at *
  generalize prjV m d e f 0 = v0 at *
  generalize prjV m d e f 1 = v1 at *
  generalize prjV m d e f 2 = v2 at *
  generalize prjV m g h i 0 = w0 at *
  generalize prjV m g h i 1 = w1 at *
  generalize prjV m g h i 2 = w2 at *
  generalize m.getD 0 0 * (m.getD 4 0 * m.getD 8 0 - m.getD 5 0 * m.getD 7 0) - m.getD 1 0 * (m.getD 3 0 * m.getD 8 0 - m.getD 5 0 * m.getD 6 0) + m.getD 2 0 * (m.getD 3 0 * m.getD 7 0 - m.getD 4 0 * m.getD 6 0) = D at *
  have e1 : r * u0 * (s * v1 * (t * w2) - s * v2 * (t * w1)) - r * u1 * (s * v0 * (t * w2) - s * v2 * (t * w0)) + r * u2 * (s * v0 * (t * w1) - s * v1 * (t * w0)) = r * s * t * (u0 * (v1 * w2 - v2 * w1) - u1 * (v0 * w2 - v2 * w0) + u2 * (v0 * w1 - v1 * w0)) := by grind
  rw [e1] at hp
  generalize u0 * (v1 * w2 - v2 * w1) - u1 * (v0 * w2 - v2 * w0) + u2 * (v0 * w1 - v1 * w0) = E at *
  generalize a * (e * i - f * h) - b * (d * i - f * g) + c * (d * h - e * g) = F at *
  constructor
  · intro h0
    rw [h0, Int.mul_zero] at hp
    exact (Int.mul_eq_zero.1 hp.symm).resolve_left hd
  · intro h0
    rw [h0, Int.mul_zero] at hp
    refine (Int.mul_eq_zero.1 hp).resolve_left fun h4 => ?_
    rcases Int.mul_eq_zero.1 h4 with h5 | h5
    · rcases Int.mul_eq_zero.1 h5 with h6 | h6
      · exact hr h6
      · exact hs h6
    · exact ht h5
/-- The whole of what FnProjections says of the images of three points. -/
theorem line_code {m : List Int} {a b c d e f g h i : Int} (h0 : rilC a b c d e f g h i = 0) (h1 : prjC m a b c = 0) (h2 : prjC m d e f = 0) (h3 : prjC m g h i = 0) {k : Int} {v : Bool}
    (hk : k = rilC (prjV m a b c 0) (prjV m a b c 1) (prjV m a b c 2) (prjV m d e f 0) (prjV m d e f 1) (prjV m d e f 2) (prjV m g h i 0) (prjV m g h i 1) (prjV m g h i 2))
    (hv : v = rilV (prjV m a b c 0) (prjV m a b c 1) (prjV m a b c 2) (prjV m d e f 0) (prjV m d e f 1) (prjV m d e f 2) (prjV m g h i 0) (prjV m g h i 1) (prjV m g h i 2)) :
    k = 3 ∨ k = 0 ∧ v = rilV a b c d e f g h i := by
  have q1 := (prj_is h1).2.2.1
  have q2 := (prj_is h2).2.2.1
  have q3 := (prj_is h3).2.2.1
  have hl := line_kept h1 h2 h3
  have hr : rats9 (prjV m a b c 0) (prjV m a b c 1) (prjV m a b c 2) (prjV m d e f 0) (prjV m d e f 1) (prjV m d e f 2) (prjV m g h i 0) (prjV m g h i 1) (prjV m g h i 2) = true := by simp [rats9, q1, q2, q3]
  unfold rilC at hk h0
  rw [if_pos hr] at hk
  cases hs : smls9 (prjV m a b c 0) (prjV m a b c 1) (prjV m a b c 2) (prjV m d e f 0) (prjV m d e f 1) (prjV m d e f 2) (prjV m g h i 0) (prjV m g h i 1) (prjV m g h i 2) with
  | false => rw [hs] at hk; exact .inl (by simpa using hk)
  | true =>
    rw [hs] at hk
    refine .inr ⟨by simpa using hk, ?_⟩
    rw [hv]
    unfold rilV
    rw [hr, hs]
    have h6 : rats9 a b c d e f g h i = true := by
      cases h7 : rats9 a b c d e f g h i with
      | true => rfl
      | false => rw [h7] at h0; simp at h0
    have h8 : smls9 a b c d e f g h i = true := by
      cases h7 : smls9 a b c d e f g h i with
      | true => rfl
      | false => rw [h6, h7] at h0; simp at h0
    rw [h6, h8]
    simp only [Bool.true_and]
    exact decide_eq_decide.2 hl
theorem com_is {a b : List Int} (h : comC a b = 0) : isPr a = true ∧ isPr b = true ∧ isPr (comR a b) = true ∧ ∃ g : Int, g ≠ 0 ∧ ∀ e, e < 9 → prT a b e 3 = g * (comR a b).getD e 0 := by
  unfold comC at h
  by_cases h1 : (isPr a && isPr b) = true
  · rw [if_pos h1] at h
    obtain ⟨p1, p2⟩ : isPr a = true ∧ isPr b = true := by simpa using h1
    have e1 : comR a b = lowL (prL a b 9) := by simp [comR, h1]
    obtain ⟨k1, k2⟩ := low_is h
    rw [e1]
    refine ⟨p1, p2, k1, gcL (prL a b 9), pr_gc (isPr_iff p1).2.2 (isPr_iff p2).2.2, fun e he => ?_⟩
    have := k2 e (by rw [prL_len]; exact he)
    rw [← this, getD_at _ _ _ (by rw [prL_len]; exact he)]
    simp [prL]
  · rw [if_neg h1] at h; cases h
/-- The image under a product is the image of the image. -/
theorem com_img {a b : List Int} {x y z : Int} (h : comC a b = 0) (h1 : prjC b x y z = 0) (h2 : prjC a (prjV b x y z 0) (prjV b x y z 1) (prjV b x y z 2) = 0) (h3 : prjC (comR a b) x y z = 0) :
    prjV a (prjV b x y z 0) (prjV b x y z 1) (prjV b x y z 2) 0 = prjV (comR a b) x y z 0 ∧ prjV a (prjV b x y z 0) (prjV b x y z 1) (prjV b x y z 2) 1 = prjV (comR a b) x y z 1 ∧ prjV a (prjV b x y z 0) (prjV b x y z 1) (prjV b x y z 2) 2 = prjV (comR a b) x y z 2 := by
  obtain ⟨_, _, _, g, hg, ge⟩ := com_is h
  obtain ⟨_, _, _, _, r, hr, r0, r1, r2⟩ := prj_is h1
  obtain ⟨_, _, s3, _, s, hs, s0, s1, s2⟩ := prj_is h2
  obtain ⟨_, _, t3, _, t, ht, t0, t1, t2⟩ := prj_is h3
  have key : ∀ k, k < 3 → r * rowV a k (prjV b x y z 0) (prjV b x y z 1) (prjV b x y z 2) = g * rowV (comR a b) k x y z := by
    intro k hk
    simp only [rowV, Nat.mul_zero, Nat.mul_one, Nat.zero_add, Nat.reduceMul, Nat.reduceAdd] at r0 r1 r2
    have hk : k = 0 ∨ k = 1 ∨ k = 2 := by omega
    have i0 := ge 0 (by omega)
    have i1 := ge 1 (by omega)
    have i2 := ge 2 (by omega)
    have i3 := ge 3 (by omega)
    have i4 := ge 4 (by omega)
    have i5 := ge 5 (by omega)
    have i6 := ge 6 (by omega)
    have i7 := ge 7 (by omega)
    have i8 := ge 8 (by omega)
    simp only [prT, Nat.reduceDiv, Nat.reduceMul, Nat.reduceAdd, Nat.reduceMod, Int.zero_add, Nat.add_zero, Nat.zero_add, Nat.mul_zero, Nat.mul_one, Nat.zero_mul, Nat.one_mul, Nat.zero_mod, Nat.zero_div] at i0 i1 i2 i3 i4 i5 i6 i7 i8
    clear ge h h1 h2 h3 s0 s1 s2 t0 t1 t2 s3 t3
    generalize prjV b x y z 0 = v0 at *
    generalize prjV b x y z 1 = v1 at *
    generalize prjV b x y z 2 = v2 at *
    generalize comR a b = C at *
    rcases hk with rfl | rfl | rfl <;> simp only [rowV, Nat.mul_zero, Nat.mul_one, Nat.zero_add, Nat.reduceMul, Nat.reduceAdd]
    · rw [show g * (C.getD 0 0 * x + C.getD 1 0 * y + C.getD 2 0 * z) = (g * C.getD 0 0) * x + (g * C.getD 1 0) * y + (g * C.getD 2 0) * z by grind, ← i0, ← i1, ← i2,
        show r * (a.getD 0 0 * v0 + a.getD 1 0 * v1 + a.getD 2 0 * v2) = a.getD 0 0 * (r * v0) + a.getD 1 0 * (r * v1) + a.getD 2 0 * (r * v2) by grind, ← r0, ← r1, ← r2]
      grind
    · rw [show g * (C.getD 3 0 * x + C.getD 4 0 * y + C.getD 5 0 * z) = (g * C.getD 3 0) * x + (g * C.getD 4 0) * y + (g * C.getD 5 0) * z by grind, ← i3, ← i4, ← i5,
        show r * (a.getD 3 0 * v0 + a.getD 4 0 * v1 + a.getD 5 0 * v2) = a.getD 3 0 * (r * v0) + a.getD 4 0 * (r * v1) + a.getD 5 0 * (r * v2) by grind, ← r0, ← r1, ← r2]
      grind
    · rw [show g * (C.getD 6 0 * x + C.getD 7 0 * y + C.getD 8 0 * z) = (g * C.getD 6 0) * x + (g * C.getD 7 0) * y + (g * C.getD 8 0) * z by grind, ← i6, ← i7, ← i8,
        show r * (a.getD 6 0 * v0 + a.getD 7 0 * v1 + a.getD 8 0 * v2) = a.getD 6 0 * (r * v0) + a.getD 7 0 * (r * v1) + a.getD 8 0 * (r * v2) by grind, ← r0, ← r1, ← r2]
      grind
  have k0 := key 0 (by omega)
  have k1 := key 1 (by omega)
  have k2 := key 2 (by omega)
  rw [s0, t0, ← Int.mul_assoc, ← Int.mul_assoc] at k0
  rw [s1, t1, ← Int.mul_assoc, ← Int.mul_assoc] at k1
  rw [s2, t2, ← Int.mul_assoc, ← Int.mul_assoc] at k2
  refine rat_uniq s3 t3 ?_ k0 k1 k2
  intro h0
  rcases Int.mul_eq_zero.1 h0 with h5 | h5
  · exact hr h5
  · exact hs h5
/-- A projection that fixes all points. -/
theorem fix_img {m : List Int} {x y z : Int} (h : fixV m = true) (h1 : prjC m x y z = 0) : prjV m x y z 0 = x ∧ prjV m x y z 1 = y ∧ prjV m x y z 2 = z := by
  obtain ⟨p1, p2, p3, _, c, hc, c0, c1, c2⟩ := prj_is h1
  unfold fixV at h
  obtain ⟨_, h2⟩ : isPr m = true ∧ fixN m 9 = true := by simpa using h
  unfold fixN at h2
  have at_ : ∀ i, i < 9 → okAt m i = true := fun i hi => List.all_eq_true.1 h2 i (List.mem_range.2 hi)
  have a1 := at_ 1 (by omega)
  have a2 := at_ 2 (by omega)
  have a3 := at_ 3 (by omega)
  have a4 := at_ 4 (by omega)
  have a5 := at_ 5 (by omega)
  have a6 := at_ 6 (by omega)
  have a7 := at_ 7 (by omega)
  have a8 := at_ 8 (by omega)
  simp only [okAt] at a1 a2 a3 a4 a5 a6 a7 a8
  simp only [Nat.reduceMod, Nat.one_ne_zero, if_false, if_true, beq_iff_eq, show ¬ (2 = 0) from by omega, show ¬ (3 = 0) from by omega] at a1 a2 a3 a4 a5 a6 a7 a8
  simp only [rowV, Nat.mul_zero, Nat.mul_one, Nat.zero_add, Nat.reduceMul, Nat.reduceAdd, a1, a2, a3, a4, a5, a6, a7, a8, Int.zero_mul, Int.add_zero, Int.zero_add] at c0 c1 c2
  exact rat_uniq p3 p2 hc c0.symm c1.symm c2.symm
theorem Nr_near {a b : Int} (hb : 1 ≤ b) : 2 * (Nr a b * b - a) ≤ b ∧ 2 * (a - Nr a b * b) ≤ b := by
  unfold Nr
  rw [Fl_pos _ _ (by omega)]
  have h1 := Int.mul_ediv_self_le (x := 2 * a + b) (k := 2 * b) (by omega)
  have h2 := Int.lt_mul_ediv_self_add (x := 2 * a + b) (k := 2 * b) (by omega)
  generalize (2 * a + b) / (2 * b) = q at *
  have h3 : 2 * b * q = 2 * (q * b) := by grind
  omega
/-- Rounded points are near. -/
theorem rnd_near {x y z : Int} (h : rndC x y z = 0) : ∀ u, (u = x ∨ u = y) → rndV x y z u = Nr u z ∧ 2 * (Nr u z * z - u) ≤ z ∧ 2 * (u - Nr u z * z) ≤ z ∧ -100000 ≤ Nr u z ∧ Nr u z ≤ 100000 ∧ -1000000000000 ≤ u ∧ u ≤ 1000000000000 ∧ 1 ≤ z ∧ z ≤ 1000000000000 := by
  unfold rndC at h
  by_cases h1 : ratB x y z = true
  · rw [if_pos h1] at h
    by_cases h2 : okP (Nr x z, Nr y z) = true
    · obtain ⟨b1, b2, b3, b4, b5, b6⟩ := ratB_bd h1
      have h3 : inB (Nr x z) (-100000) 100000 = true ∧ inB (Nr y z) (-100000) 100000 = true := by simpa [okP] using h2
      have n1 := inB_iff.1 h3.1
      have n2 := inB_iff.1 h3.2
      intro u hu
      have hv : rndV x y z u = Nr u z := by simp [rndV, h1, h2]
      have hn : 2 * (Nr u z * z - u) ≤ z ∧ 2 * (u - Nr u z * z) ≤ z := Nr_near (by omega)
      rcases hu with rfl | rfl
      · exact ⟨hv, hn.1, hn.2, n1.1, n1.2, b1, b2, b5, b6⟩
      · exact ⟨hv, hn.1, hn.2, n2.1, n2.2, b3, b4, b5, b6⟩
    · rw [if_neg h2] at h; cases h
  · rw [if_neg h1] at h; cases h
end Go.Proofs.Ythfphjbaglgacaa
