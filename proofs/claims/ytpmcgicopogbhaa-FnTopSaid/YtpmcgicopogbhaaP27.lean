/- Chapter 27: a safe bound bounds the errors of readings. No conditions. -/
import Derived.Test.YtpmcgicopogbhaaProg
import Derived.Test.YtpmcgicopogbhaaBase
import Derived.Test.YtpmcgicopogbhaaL01
import Derived.Test.YtpmcgicopogbhaaCp
import Derived.Test.YtpmcgicopogbhaaL18
import Derived.Test.YtpmcgicopogbhaaL23
import Derived.Test.YtpmcgicopogbhaaL03
import Derived.Test.YtpmcgicopogbhaaL04
import Derived.Test.YtpmcgicopogbhaaL23d
import Derived.Test.YtpmcgicopogbhaaL23e
import Derived.Test.YtpmcgicopogbhaaL23f
import Derived.Test.YtpmcgicopogbhaaL24
import Derived.Test.YtpmcgicopogbhaaL24b
import Derived.Test.YtpmcgicopogbhaaL24c
import Derived.Test.YtpmcgicopogbhaaL24d
import Derived.Test.YtpmcgicopogbhaaL24f
import Derived.Test.YtpmcgicopogbhaaL24g
import Derived.Test.YtpmcgicopogbhaaL24r
import Derived.Test.YtpmcgicopogbhaaL27o
import Derived.Test.YtpmcgicopogbhaaL27a
import Derived.Test.YtpmcgicopogbhaaL27b
import Derived.Test.YtpmcgicopogbhaaL27c
import Derived.Test.YtpmcgicopogbhaaL27m
import Derived.Test.YtpmcgicopogbhaaL27t
import Derived.Test.YtpmcgicopogbhaaL27v
import Derived.Test.YtpmcgicopogbhaaM24
import Derived.Test.YtpmcgicopogbhaaM24r
import Derived.Test.YtpmcgicopogbhaaPWd
import Derived.WalkKit
import Derived.Lib.Hide
namespace Go.Proofs.Ytpmcgicopogbhaa
open Go.RowKit
set_option linter.unusedVariables false
theorem fp_width {p dg tn : Int} (h : okF dg tn = true) : fpH p dg tn - fpL p dg tn ≤ 3 * Ab p := by
  have h1 := fg_width h
  have h2 := fg_le h
  have h3 : 0 ≤ fgHi dg tn - fgLo dg tn := by omega
  have hx : fgHi dg tn * p = fgLo dg tn * p + (fgHi dg tn - fgLo dg tn) * p := by rw [Int.sub_mul]; omega
  unfold fpH fpL
  rw [hx]
  clear hx h2
  generalize fgLo dg tn * p = Y
  generalize fgHi dg tn - fgLo dg tn = w at *
  by_cases hp : 0 ≤ p
  · have a := Int.mul_le_mul_of_nonneg_right h1 hp
    have b := Int.mul_nonneg h3 hp
    have c : Ab p = p := by unfold Ab; split <;> omega
    unfold mx mn
    split <;> omega
  · have a := Int.mul_le_mul_of_nonpos_right h1 (show p ≤ 0 by omega)
    have b := Int.mul_le_mul_of_nonpos_right h3 (show p ≤ 0 by omega)
    have c : Ab p = -p := by unfold Ab; split <;> omega
    unfold mx mn
    split <;> omega
theorem Cl_lt_add {a b : Int} (hb : 0 < b) : Cl a b * b < a + b := by
  have h := Int.lt_mul_ediv_self_add (x := -a) (k := b) hb
  unfold Cl
  rw [Fl_pos _ _ hb, Int.neg_mul, Int.mul_comm]
  omega
theorem Fl_gt_sub {a b : Int} (hb : 0 < b) : a - b < Fl a b * b := by
  have h := Int.lt_mul_ediv_self_add (x := a) (k := b) hb
  rw [Fl_pos _ _ hb, Int.mul_comm]
  omega
/-- The heights, with their roundings bounded. -/
theorem lh_near {C : Ch} {ud ut vd vt : Int} (h : okCh C = true) (hc : lhC C ud ut vd vt = 0) :
    C.lf * C.rt * (fpL (P0 C) ud ut + fpL (P1 C) vd vt) ≤ (C.lf + C.rt) * 1048576 * (lhL C ud ut vd vt + 2) ∧ (C.lf + C.rt) * 1048576 * (lhH C ud ut vd vt - 2) ≤ C.lf * C.rt * (fpH (P0 C) ud ut + fpH (P1 C) vd vt) := by
  obtain ⟨k0, k1⟩ := lh_ok hc
  obtain ⟨_, e1, e2⟩ := lh_0 k0 k1
  obtain ⟨_, _, _, ⟨a1, a2⟩, ⟨a3, a4⟩, _, _⟩ := okCh_iff h
  obtain ⟨c1, c2⟩ := cp_0 C (by omega) ud ut
  obtain ⟨c3, c4⟩ := cp_1 C (by omega) vd vt
  have p1 : plL C 0 ud ut = cpL C 0 ud ut := by simp [plL, k0]
  have p2 : plH C 0 ud ut = cpH C 0 ud ut := by simp [plH, k0]
  have p3 : plL C 1 vd vt = cpL C 1 vd vt := by simp [plL, k1]
  have p4 : plH C 1 vd vt = cpH C 1 vd vt := by simp [plH, k1]
  rw [e1, e2]
  unfold lhX lhY
  rw [p1, p2, p3, p4, c1, c2, c3, c4]
  generalize fpL (P0 C) ud ut = x
  generalize fpL (P1 C) vd vt = y
  generalize fpH (P0 C) ud ut = X
  generalize fpH (P1 C) vd vt = Y
  have f1 := Int.le_of_lt (Fl_gt_sub (a := C.lf * x) (b := 1048576) (by omega))
  have f2 := Int.le_of_lt (Fl_gt_sub (a := C.rt * y) (b := 1048576) (by omega))
  have f3 := Int.le_of_lt (Cl_lt_add (a := C.lf * X) (b := 1048576) (by omega))
  have f4 := Int.le_of_lt (Cl_lt_add (a := C.rt * Y) (b := 1048576) (by omega))
  generalize Fl (C.lf * x) 1048576 = px at *
  generalize Fl (C.rt * y) 1048576 = py at *
  generalize Cl (C.lf * X) 1048576 = pX at *
  generalize Cl (C.rt * Y) 1048576 = pY at *
  have g1 := Int.le_of_lt (Fl_gt_sub (a := C.rt * px + C.lf * py) (b := C.lf + C.rt) (by omega))
  have g2 := Int.le_of_lt (Cl_lt_add (a := C.rt * pX + C.lf * pY) (b := C.lf + C.rt) (by omega))
  generalize Fl (C.rt * px + C.lf * py) (C.lf + C.rt) = q at *
  generalize Cl (C.rt * pX + C.lf * pY) (C.lf + C.rt) = Q at *
  have m1 := Int.mul_le_mul_of_nonneg_left f1 (show 0 ≤ C.rt by omega)
  have m2 := Int.mul_le_mul_of_nonneg_left f2 (show 0 ≤ C.lf by omega)
  have m3 := Int.mul_le_mul_of_nonneg_left f3 (show 0 ≤ C.rt by omega)
  have m4 := Int.mul_le_mul_of_nonneg_left f4 (show 0 ≤ C.lf by omega)
  clear c1 c2 c3 c4 p1 p2 p3 p4 e1 e2 f1 f2 f3 f4
  generalize C.lf = l at *
  generalize C.rt = r at *
  constructor
  · clear m3 m4 g2
    grind
  · clear m1 m2 g1
    grind
/-- The error of a reading is at most the safe bound. -/
theorem re_safe {C : Ch} {ud ut vd vt e : Int} (h : okCh C = true) (hc : lhC C ud ut vd vt = 0) (hu : okF ud ut = true) (hv : okF vd vt = true) (he : 0 ≤ e) :
    rdH C ud ut vd vt e - fmL C ud ut vd vt ≤ sbV C e ∧ fmH C ud ut vd vt - rdL C ud ut vd vt e ≤ sbV C e := by
  obtain ⟨o1, o2⟩ := lh_near h hc
  obtain ⟨e1, e2⟩ := fm_eq C ud ut vd vt
  obtain ⟨_, _, _, ⟨a1, a2⟩, ⟨a3, a4⟩, _, _⟩ := okCh_iff h
  have w0 := fp_width (p := P0 C) hu
  have w1 := fp_width (p := P1 C) hv
  have w2 := fg_width (okCh_fac h)
  have hd : 0 < C.lf * C.rt := Int.mul_pos (by omega) (by omega)
  have hK := le_Cl_mul (a := (2 + e) * 1048576 * (C.lf + C.rt)) hd
  have hS : sbV C e = Cl ((2 + e) * 1048576 * (C.lf + C.rt)) (C.lf * C.rt) + 3 * (Ab (P0 C) + Ab (P1 C) + 2) + 4 := rfl
  generalize Cl ((2 + e) * 1048576 * (C.lf + C.rt)) (C.lf * C.rt) = K at *
  have x1 : fpL (P0 C) ud ut + fpL (P1 C) vd vt - K ≤ rdX C ud ut vd vt e := by
    unfold rdX
    apply le_Fl_of hd
    clear o2 e1 e2 w0 w1 w2 hS
    generalize lhL C ud ut vd vt = q at *
    generalize fpL (P0 C) ud ut + fpL (P1 C) vd vt = s at *
    generalize C.lf = l at *
    generalize C.rt = r at *
    grind
  have x2 : rdY C ud ut vd vt e ≤ fpH (P0 C) ud ut + fpH (P1 C) vd vt + K := by
    unfold rdY
    apply Cl_le_of hd
    clear x1 o1 e1 e2 w0 w1 w2 hS
    generalize fpH (P0 C) ud ut + fpH (P1 C) vd vt = s at *
    generalize lhH C ud ut vd vt = q at *
    generalize C.lf = l at *
    generalize C.rt = r at *
    grind
  simp only [rdL, rdH, hc, if_true]
  have := Ab_nat (P0 C)
  have := Ab_nat (P1 C)
  omega
theorem sb_nonneg {C : Ch} {e : Int} (h : okCh C = true) (he : 0 ≤ e) : 0 ≤ sbV C e := by
  obtain ⟨_, _, _, ⟨a1, a2⟩, ⟨a3, a4⟩, _, _⟩ := okCh_iff h
  have hd : 0 < C.lf * C.rt := Int.mul_pos (by omega) (by omega)
  have h0 : 0 ≤ (2 + e) * 1048576 * (C.lf + C.rt) := Int.mul_nonneg (by omega) (by omega)
  have := le_Cl_of (x := 0) hd (by omega : 0 * (C.lf * C.rt) ≤ (2 + e) * 1048576 * (C.lf + C.rt))
  have := Ab_nat (P0 C)
  have := Ab_nat (P1 C)
  unfold sbV
  omega
theorem okRe_bo {R : Re} {x : Int} (h : okRe R = true) (h1 : 0 ≤ x) (h2 : x ≤ 1048576) : okRe { R with bo := x } = true := by
  have hb : inB x 0 1048576 = true := inB_iff.2 ⟨h1, h2⟩
  simp only [okRe, Bool.and_eq_true] at h ⊢
  exact ⟨⟨⟨⟨⟨h.1.1.1.1.1, hb⟩, h.1.1.1.2⟩, h.1.1.2⟩, h.1.2⟩, h.2⟩
/-- What is known of a covered pair of a release. -/
structure TpF (R : Re) (ud ut vd vt : Int) : Prop where
  re : okRe R = true
  ch : okCh R.ch = true
  u : okF ud ut = true
  v : okF vd vt = true
  e0 : 0 ≤ R.ey
  e1 : R.ey ≤ 200
  lh : lhC R.ch ud ut vd vt = 0
  rq : rqC R.ch ud ut vd vt R.ey = 0
  rl : rqL R.ch ud ut vd vt R.ey = rdL R.ch ud ut vd vt R.ey
  rh : rqH R.ch ud ut vd vt R.ey = rdH R.ch ud ut vd vt R.ey
  lo : rqL R.ch ud ut vd vt R.ey ≤ fmL R.ch ud ut vd vt
  hi : fmH R.ch ud ut vd vt ≤ rqH R.ch ud ut vd vt R.ey
  sa : rqH R.ch ud ut vd vt R.ey - fmL R.ch ud ut vd vt ≤ sbV R.ch R.ey
  sb : fmH R.ch ud ut vd vt - rqL R.ch ud ut vd vt R.ey ≤ sbV R.ch R.ey
theorem tp_facts {R : Re} {ud ut vd vt : Int} (h : tpC R ud ut vd vt = 0) : TpF R ud ut vd vt := by
  unfold tpC at h
  by_cases hp : pkC R ud ut vd vt = 0
  · rw [if_pos hp] at h
    by_cases hc : cvR R ud ut vd vt = true
    · obtain ⟨h1, h2, h3⟩ := pkC_0 hp
      obtain ⟨g1, _, _, _, _, g2, _⟩ := okRe_iff h1
      have g3 := inB_iff.1 g2
      have hl := cov_lh h1 h2 h3 hc
      have hq : clC R.ch R.ey (okF ud ut && okF vd vt) = 0 := by simp [clC, g1, h2, h3, g2]
      obtain ⟨q1, q2, q3⟩ := rq_0 hq
      obtain ⟨i1, i2⟩ := rd_in g1 hl g3.1
      obtain ⟨s1, s2⟩ := re_safe g1 hl h2 h3 g3.1
      exact ⟨h1, g1, h2, h3, g3.1, g3.2, hl, by rw [q1]; exact hl, q2, q3, by rw [q2]; exact i1, by rw [q3]; exact i2, by rw [q3]; exact s1, by rw [q2]; exact s2⟩
    · rw [if_neg hc] at h; cases h
  · rw [if_neg hp] at h; exact absurd h hp
/-- A covered pair of a kept release passes the test. -/
theorem kept_passes {R : Re} {ud ut vd vt : Int} (h : tpC R ud ut vd vt = 0) (hk : ikB R = true) : tpB R ud ut vd vt = true := by
  have f := tp_facts h
  simp only [ikB, Bool.and_eq_true, decide_eq_true_eq] at hk
  have h1 := f.sa
  have h2 := f.sb
  have h3 : reX R.ch ud ut vd vt R.ey ≤ R.bo := by
    rw [f.rh] at h1
    rw [f.rl] at h2
    unfold reX mx
    split <;> omega
  simp [tpB, h, h3]
theorem tb_code (R : Re) (h : okRe R = true) : tbC R = 0 ∨ tbC R = 3 := by
  unfold tbC
  rw [if_pos h]
  split
  · exact .inl rfl
  · exact .inr rfl
theorem tb_is {R : Re} (h : tbC R = 0) : okRe R = true ∧ tbV R = { R with bo := sbV R.ch R.ey } ∧ okRe (tbV R) = true ∧ ikB (tbV R) = true ∧ (tbV R).bo = sbV R.ch R.ey ∧ clC R.ch R.ey true = 0 := by
  have h0 := h
  unfold tbC at h
  by_cases h1 : okRe R = true
  · rw [if_pos h1] at h
    by_cases h2 : sbV R.ch R.ey ≤ 1048576
    · obtain ⟨g1, _, _, _, _, g2, _⟩ := okRe_iff h1
      have g3 := inB_iff.1 g2
      have e : tbV R = { R with bo := sbV R.ch R.ey } := by simp [tbV, h0]
      have ho := okRe_bo h1 (sb_nonneg g1 g3.1) h2
      rw [e]
      exact ⟨h1, rfl, ho, by simp [ikB, ho], rfl, by simp [clC, g1, g2]⟩
    · rw [if_neg h2] at h; cases h
  · rw [if_neg h1] at h; cases h
/-- A covered pair of a tightened release passes the test. -/
theorem tight_passes {R : Re} {ud ut vd vt : Int} (h : tpC R ud ut vd vt = 0) (hb : tbC R = 0) : tpC (tbV R) ud ut vd vt = 0 ∧ tpB (tbV R) ud ut vd vt = true := by
  obtain ⟨_, e, ho, hi, _, _⟩ := tb_is hb
  have f := tp_facts h
  have hc : cvR (tbV R) ud ut vd vt = true := by
    rw [e]
    show cvR R ud ut vd vt = true
    unfold tpC at h
    by_cases hp : pkC R ud ut vd vt = 0
    · rw [if_pos hp] at h
      by_cases hc : cvR R ud ut vd vt = true
      · exact hc
      · rw [if_neg hc] at h; cases h
    · rw [if_neg hp] at h; exact absurd h hp
  have hp : pkC (tbV R) ud ut vd vt = 0 := by simp [pkC, ho, f.u, f.v]
  have ht : tpC (tbV R) ud ut vd vt = 0 := by simp [tpC, hp, hc]
  exact ⟨ht, kept_passes ht hi⟩
end Go.Proofs.Ytpmcgicopogbhaa
