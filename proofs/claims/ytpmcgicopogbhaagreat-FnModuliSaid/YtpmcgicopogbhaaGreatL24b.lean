/- Chapters 18 and 24: the logarithm of a formula, readings of a chart. Conditions: as stated at each contract. -/
import Derived.Test.YtpmcgicopogbhaaGreatProg
import Derived.Test.YtpmcgicopogbhaaGreatBase
import Derived.Test.YtpmcgicopogbhaaGreatL01
import Derived.Test.YtpmcgicopogbhaaGreatCp
import Derived.Test.YtpmcgicopogbhaaGreatL18
import Derived.Test.YtpmcgicopogbhaaGreatL23
import Derived.Test.YtpmcgicopogbhaaGreatL03
import Derived.Test.YtpmcgicopogbhaaGreatL23d
import Derived.Test.YtpmcgicopogbhaaGreatL23e
import Derived.Test.YtpmcgicopogbhaaGreatL24
import Derived.WalkKit
import Derived.WalkSpells
import Derived.WalkLawsBesides
import Derived.Lib.Hide
import Derived.Deep.QuietTactic
import Derived.BigQuiet
import Derived.Deep.Draws
import Derived.Deep.RegionHeld3
namespace Go.Proofs.YtpmcgicopogbhaaGreat
open Go.RowKit
set_option linter.unusedVariables false
theorem Fl_one (a : Int) : Fl a 1 = a := Int.fdiv_one a
theorem Cl_one (a : Int) : Cl a 1 = a := by unfold Cl; rw [Fl_one]; omega
theorem Fl_cvx {a b B : Int} (hb : 0 < b) (h1 : -(B * b) ≤ a) (h2 : a ≤ B * b) : -B ≤ Fl a b ∧ Fl a b ≤ B := by
  rw [Fl_pos _ _ hb]
  refine ⟨Int.le_ediv_of_mul_le hb (by rw [Int.neg_mul]; omega), ?_⟩
  have := Int.ediv_lt_of_lt_mul hb (show a < (B + 1) * b by rw [Int.add_mul]; omega)
  omega
theorem Cl_cvx {a b B : Int} (hb : 0 < b) (h1 : -(B * b) ≤ a) (h2 : a ≤ B * b) : -B ≤ Cl a b ∧ Cl a b ≤ B := by
  have := Fl_cvx (a := -a) (B := B) hb (by omega) (by omega)
  unfold Cl; omega
theorem mix_bd {p q l r : Int} (hl : 0 ≤ l) (hr : 0 ≤ r) (p1 : -100000 ≤ p) (p2 : p ≤ 100000) (q1 : -100000 ≤ q) (q2 : q ≤ 100000) : -(100000 * (l + r)) ≤ r * p + l * q ∧ r * p + l * q ≤ 100000 * (l + r) := by
  have a1 := Int.mul_le_mul_of_nonneg_left p1 hr
  have a2 := Int.mul_le_mul_of_nonneg_left p2 hr
  have a3 := Int.mul_le_mul_of_nonneg_left q1 hl
  have a4 := Int.mul_le_mul_of_nonneg_left q2 hl
  omega
theorem lh_bd {C : Ch} {ud ut vd vt : Int} (h : okCh C = true) (hc : lhC C ud ut vd vt = 0) : -100000 ≤ lhL C ud ut vd vt ∧ lhL C ud ut vd vt ≤ 100000 ∧ -100000 ≤ lhH C ud ut vd vt ∧ lhH C ud ut vd vt ≤ 100000 := by
  have k : plC C 0 ud ut = 0 ∧ plC C 1 vd vt = 0 := by
    unfold lhC at hc
    split at hc
    · assumption
    · cases hc
  obtain ⟨_, e1, e2⟩ := lh_0 k.1 k.2
  obtain ⟨⟨p1, p2⟩, p3, p4⟩ := pl_bd k.1
  obtain ⟨⟨q1, q2⟩, q3, q4⟩ := pl_bd k.2
  obtain ⟨_, _, _, ⟨a1, a2⟩, ⟨a3, a4⟩, _, _⟩ := okCh_iff h
  obtain ⟨m1, m2⟩ := mix_bd (show 0 ≤ C.lf by omega) (show 0 ≤ C.rt by omega) p1 p2 q1 q2
  obtain ⟨m3, m4⟩ := mix_bd (show 0 ≤ C.lf by omega) (show 0 ≤ C.rt by omega) p3 p4 q3 q4
  have f1 := Fl_cvx (show 0 < C.lf + C.rt by omega) m1 m2
  have f2 := Cl_cvx (show 0 < C.lf + C.rt by omega) m3 m4
  rw [e1, e2]
  exact ⟨f1.1, f1.2, f2.1, f2.2⟩
/-- The logarithm of a formula for values. -/
def fmT (C : Ch) (ps : List (Int × Int)) : Nat → Int × Int
  | 0 => (fgLo C.dg C.tn, fgHi C.dg C.tn)
  | k + 1 => ((fmT C ps k).1 + mn (fgLo (ps.getD k (0, 0)).1 (ps.getD k (0, 0)).2 * C.zs.getD k 0) (fgHi (ps.getD k (0, 0)).1 (ps.getD k (0, 0)).2 * C.zs.getD k 0),
      (fmT C ps k).2 + mx (fgLo (ps.getD k (0, 0)).1 (ps.getD k (0, 0)).2 * C.zs.getD k 0) (fgHi (ps.getD k (0, 0)).1 (ps.getD k (0, 0)).2 * C.zs.getD k 0))
def fmL (C : Ch) (ud ut vd vt : Int) : Int := (fmT C [(ud, ut), (vd, vt)] 2).1
def fmH (C : Ch) (ud ut vd vt : Int) : Int := (fmT C [(ud, ut), (vd, vt)] 2).2
theorem okFs_at {ps : List (Int × Int)} {k : Nat} (h : okFs ps = true) (hk : k < ps.length) : okF (ps.getD k (0, 0)).1 (ps.getD k (0, 0)).2 = true := by
  have := List.all_eq_true.1 h _ (List.getElem_mem hk)
  simpa [List.getD, List.getElem?_eq_getElem hk] using this
theorem fm_step {C : Ch} {ps : List (Int × Int)} {k : Nat} (h : okCh C = true) (hp : okFs ps = true) (hk : k < ps.length) (h2 : ps.length ≤ 2) :
    (-43000000 ≤ fgLo (ps.getD k (0, 0)).1 (ps.getD k (0, 0)).2 ∧ fgLo (ps.getD k (0, 0)).1 (ps.getD k (0, 0)).2 ≤ 43000000 ∧ -43000000 ≤ fgHi (ps.getD k (0, 0)).1 (ps.getD k (0, 0)).2 ∧ fgHi (ps.getD k (0, 0)).1 (ps.getD k (0, 0)).2 ≤ 43000000) ∧ (-6 ≤ C.zs.getD k 0 ∧ C.zs.getD k 0 ≤ 6) ∧
    (-258000000 ≤ mn (fgLo (ps.getD k (0, 0)).1 (ps.getD k (0, 0)).2 * C.zs.getD k 0) (fgHi (ps.getD k (0, 0)).1 (ps.getD k (0, 0)).2 * C.zs.getD k 0) ∧ mn (fgLo (ps.getD k (0, 0)).1 (ps.getD k (0, 0)).2 * C.zs.getD k 0) (fgHi (ps.getD k (0, 0)).1 (ps.getD k (0, 0)).2 * C.zs.getD k 0) ≤ 258000000) ∧
    (-258000000 ≤ mx (fgLo (ps.getD k (0, 0)).1 (ps.getD k (0, 0)).2 * C.zs.getD k 0) (fgHi (ps.getD k (0, 0)).1 (ps.getD k (0, 0)).2 * C.zs.getD k 0) ∧ mx (fgLo (ps.getD k (0, 0)).1 (ps.getD k (0, 0)).2 * C.zs.getD k 0) (fgHi (ps.getD k (0, 0)).1 (ps.getD k (0, 0)).2 * C.zs.getD k 0) ≤ 258000000) := by
  obtain ⟨f1, f2, f3, f4⟩ := okF_iff (okFs_at hp hk)
  obtain ⟨b1, b2, b3, b4⟩ := fg_bd f1 f2 (by omega) (show (ps.getD k (0, 0)).2 ≤ 40 by omega)
  have hz : -6 ≤ C.zs.getD k 0 ∧ C.zs.getD k 0 ≤ 6 := by
    obtain ⟨hfm, hsz⟩ : okFm C = true ∧ C.nm.size = 2 := by simp only [okCh, Bool.and_eq_true, decide_eq_true_eq] at h; exact ⟨h.1.1.1.1, h.1.1.1.2⟩
    obtain ⟨_, _, _, hall⟩ := okFm_iff hfm
    exact ⟨(hall k (by omega)).2.1, (hall k (by omega)).2.2⟩
  generalize fgLo (ps.getD k (0, 0)).1 (ps.getD k (0, 0)).2 = a at *
  generalize fgHi (ps.getD k (0, 0)).1 (ps.getD k (0, 0)).2 = b at *
  generalize C.zs.getD k 0 = z at *
  have m1 := mul_bd a z 43000000 6 (by omega) (by omega) hz.1 hz.2
  have m2 := mul_bd b z 43000000 6 (by omega) (by omega) hz.1 hz.2
  refine ⟨⟨by omega, by omega, by omega, by omega⟩, hz, mn_bd (by omega) (by omega) (by omega) (by omega), mx_bd (by omega) (by omega) (by omega) (by omega)⟩
theorem fmT_bd {C : Ch} {ps : List (Int × Int)} (h : okCh C = true) (hp : okFs ps = true) (h2 : ps.length ≤ 2) (k : Nat) (hk : k ≤ ps.length) : -1000000000 ≤ (fmT C ps k).1 ∧ (fmT C ps k).1 ≤ 1000000000 ∧ -1000000000 ≤ (fmT C ps k).2 ∧ (fmT C ps k).2 ≤ 1000000000 := by
  have hb : ∀ k : Nat, k ≤ ps.length → -(43000000 + 258000000 * (k : Int)) ≤ (fmT C ps k).1 ∧ (fmT C ps k).1 ≤ 43000000 + 258000000 * (k : Int) ∧ -(43000000 + 258000000 * (k : Int)) ≤ (fmT C ps k).2 ∧ (fmT C ps k).2 ≤ 43000000 + 258000000 * (k : Int) := by
    intro k
    induction k with
    | zero =>
      intro _
      obtain ⟨⟨d1, d2, d3, d4⟩, _⟩ := okCh_iff h
      have := fg_bd d1 d2 (by omega) (by omega : C.tn ≤ 40)
      simp only [fmT]; omega
    | succ k ih =>
      intro hk
      have a := ih (by omega)
      obtain ⟨_, _, c, d⟩ := fm_step h hp (show k < ps.length by omega) h2
      simp only [fmT]; omega
  have := hb k hk
  omega
theorem fm_bd {C : Ch} {ud ut vd vt : Int} (h : okCh C = true) (hu : okF ud ut = true) (hv : okF vd vt = true) : -1000000000 ≤ fmL C ud ut vd vt ∧ fmL C ud ut vd vt ≤ 1000000000 ∧ -1000000000 ≤ fmH C ud ut vd vt ∧ fmH C ud ut vd vt ≤ 1000000000 :=
  fmT_bd h (by rw [okFs_two, hu, hv]; rfl) (by simp) 2 (by simp)
/-- The reading of a chart: the logarithms of w that may be read. -/
def rdX (C : Ch) (ud ut vd vt e : Int) : Int := Fl ((lhL C ud ut vd vt - e) * (1048576 * (C.lf + C.rt))) (C.lf * C.rt)
def rdY (C : Ch) (ud ut vd vt e : Int) : Int := Cl ((lhH C ud ut vd vt + e) * (1048576 * (C.lf + C.rt))) (C.lf * C.rt)
def rdL (C : Ch) (ud ut vd vt e : Int) : Int := if lhC C ud ut vd vt = 0 then rdX C ud ut vd vt e + fgLo C.dg C.tn else 0
def rdH (C : Ch) (ud ut vd vt e : Int) : Int := if lhC C ud ut vd vt = 0 then rdY C ud ut vd vt e + fgHi C.dg C.tn else 0
theorem rd_wr {C : Ch} {ud ut vd vt e : Int} (h : okCh C = true) (hc : lhC C ud ut vd vt = 0) (h1 : 0 ≤ e) (h2 : e ≤ 200) :
    (200 ≤ C.lf + C.rt ∧ C.lf + C.rt ≤ 40000) ∧ (1 ≤ C.lf * C.rt ∧ C.lf * C.rt ≤ 400000000) ∧
    (-5000000000000000 ≤ (lhL C ud ut vd vt - e) * (1048576 * (C.lf + C.rt)) ∧ (lhL C ud ut vd vt - e) * (1048576 * (C.lf + C.rt)) ≤ 5000000000000000) ∧
    (-5000000000000000 ≤ (lhH C ud ut vd vt + e) * (1048576 * (C.lf + C.rt)) ∧ (lhH C ud ut vd vt + e) * (1048576 * (C.lf + C.rt)) ≤ 5000000000000000) ∧
    (-5000000000000000 ≤ rdX C ud ut vd vt e ∧ rdX C ud ut vd vt e ≤ 5000000000000000) ∧ (-5000000000000000 ≤ rdY C ud ut vd vt e ∧ rdY C ud ut vd vt e ≤ 5000000000000000) := by
  obtain ⟨b1, b2, b3, b4⟩ := lh_bd h hc
  obtain ⟨_, _, _, ⟨a1, a2⟩, ⟨a3, a4⟩, _, _⟩ := okCh_iff h
  have hd := mul_pos_bd (A := 20000) (B := 20000) (show 1 ≤ C.lf by omega) a2 (show 1 ≤ C.rt by omega) a4
  have m1 := mul_bd (lhL C ud ut vd vt - e) (1048576 * (C.lf + C.rt)) 100200 41943040000 (by omega) (by omega) (by omega) (by omega)
  have m2 := mul_bd (lhH C ud ut vd vt + e) (1048576 * (C.lf + C.rt)) 100200 41943040000 (by omega) (by omega) (by omega) (by omega)
  refine ⟨⟨by omega, by omega⟩, ⟨hd.1, by omega⟩, ⟨by omega, by omega⟩, ⟨by omega, by omega⟩, ?_, ?_⟩
  · exact Fl_bd _ _ _ (by omega) (by omega)
  · exact Cl_bd _ _ _ (by omega) (by omega)
theorem rd_bd {C : Ch} {ud ut vd vt e : Int} (h : okCh C = true) (hc : lhC C ud ut vd vt = 0) (h1 : 0 ≤ e) (h2 : e ≤ 200) : -6000000000000000 ≤ rdL C ud ut vd vt e ∧ rdL C ud ut vd vt e ≤ 6000000000000000 ∧ -6000000000000000 ≤ rdH C ud ut vd vt e ∧ rdH C ud ut vd vt e ≤ 6000000000000000 := by
  obtain ⟨_, _, _, _, ⟨p1, p2⟩, p3, p4⟩ := rd_wr (e := e) h hc h1 h2
  obtain ⟨⟨d1, d2, d3, d4⟩, _⟩ := okCh_iff h
  have := fg_bd d1 d2 (by omega) (by omega : C.tn ≤ 40)
  simp only [rdL, rdH, hc, if_true]
  omega
theorem l03Scale_c (a b n : Int) (ha1 : -100000000 ≤ a) (ha2 : a ≤ 100000000) (hb1 : -100000000 ≤ b) (hb2 : b ≤ 100000000) (hn1 : -6 ≤ n) (hn2 : n ≤ 6) (w : World) :
    Calls Tryz.prog 113 #[.agg #[.int .i64 a, .int .i64 b], .int .i64 n, .int .i64 1] w fun r w' => r = .returned (.agg #[.int .i64 (mn (a * n) (b * n)), .int .i64 (mx (a * n) (b * n))]) ∧ Below w.heap.size w w' := by
  obtain ⟨p1, p2⟩ := mul_bd a n 100000000 6 ha1 ha2 hn1 hn2
  obtain ⟨p3, p4⟩ := mul_bd b n 100000000 6 hb1 hb2 hn1 hn2
  have e1 : IntKind.i64.wrap (a * n) = a * n := wr64 (by omega) (by omega)
  have e2 : IntKind.i64.wrap (b * n) = b * n := wr64 (by omega) (by omega)
  by_cases hm : a * n < b * n
  · have HM := Lib.hid (And.intro (mn_le (Int.le_of_lt hm)) (mx_le (Int.le_of_lt hm)))
    have HO := Lib.hid (And.intro (Fl_one (a * n)) (Cl_one (b * n)))
    go_enter Tryz.func113, Tryz.ntmps113
    go_wp2
    go_quiet (fail)
    go_wp2_with (first | (go_at_call 135; refine (l01Floor_c _ _ (by omega) (by omega) (by omega) (by omega) (by omega) _).mono ?_; rintro e w' ⟨rfl, rfl⟩) | (go_at_call 99; refine (l01Ceil_c _ _ (by omega) (by omega) (by omega) (by omega) (by omega) _).mono ?_; rintro e w' ⟨rfl, rfl⟩))
    all_goals
      refine bodyPost_ret (v := .agg #[.int .i64 (Fl (a * n) 1), .int .i64 (Cl (b * n) 1)]) (by simp [results, Tryz.results113, go_sem, *]) rfl ⟨by rw [HM.out.1, HM.out.2, HO.out.1, HO.out.2], by repeat (with_reducible first | exact Below.refl _ _ | assumption | refine Bel.alloc ?_ _ | refine Bel.step (by assumption) ?_ | refine Below.drew ?_ | refine Bel.drewN ?_ _ | refine Below.setCell ?_ (by first | exact Nat.le_refl _ | omega | (simp; done) | (simp; omega)) _)⟩
  · by_cases hg : b * n < a * n
    · have HM := Lib.hid (And.intro (mn_ge (Int.le_of_lt hg)) (mx_ge (Int.le_of_lt hg)))
      have HO := Lib.hid (And.intro (Fl_one (b * n)) (Cl_one (a * n)))
      clear hm
      go_enter Tryz.func113, Tryz.ntmps113
      go_wp2
      go_quiet (fail)
      go_wp2_with (first | (go_at_call 135; refine (l01Floor_c _ _ (by omega) (by omega) (by omega) (by omega) (by omega) _).mono ?_; rintro e w' ⟨rfl, rfl⟩) | (go_at_call 99; refine (l01Ceil_c _ _ (by omega) (by omega) (by omega) (by omega) (by omega) _).mono ?_; rintro e w' ⟨rfl, rfl⟩))
      all_goals
        refine bodyPost_ret (v := .agg #[.int .i64 (Fl (b * n) 1), .int .i64 (Cl (a * n) 1)]) (by simp [results, Tryz.results113, go_sem, *]) rfl ⟨by rw [HM.out.1, HM.out.2, HO.out.1, HO.out.2], by repeat (with_reducible first | exact Below.refl _ _ | assumption | refine Bel.alloc ?_ _ | refine Bel.step (by assumption) ?_ | refine Below.drew ?_ | refine Bel.drewN ?_ _ | refine Below.setCell ?_ (by first | exact Nat.le_refl _ | omega | (simp; done) | (simp; omega)) _)⟩
    · have he : b * n = a * n := by omega
      have HM := Lib.hid (show mn (a * n) (b * n) = a * n ∧ mx (a * n) (b * n) = a * n by rw [he]; simp [mn, mx])
      have HO := Lib.hid (And.intro (Fl_one (a * n)) (Cl_one (a * n)))
      have HE := Lib.hid he
      clear hm hg p3 p4 e2 he
      go_enter Tryz.func113, Tryz.ntmps113
      have e2 : IntKind.i64.wrap (b * n) = a * n := by rw [HE.out]; exact e1
      go_wp2
      go_quiet (fail)
      go_wp2_with (first | (go_at_call 135; refine (l01Floor_c _ _ (by omega) (by omega) (by omega) (by omega) (by omega) _).mono ?_; rintro e w' ⟨rfl, rfl⟩) | (go_at_call 99; refine (l01Ceil_c _ _ (by omega) (by omega) (by omega) (by omega) (by omega) _).mono ?_; rintro e w' ⟨rfl, rfl⟩))
      all_goals
        refine bodyPost_ret (v := .agg #[.int .i64 (Fl (a * n) 1), .int .i64 (Cl (a * n) 1)]) (by simp [results, Tryz.results113, go_sem, *]) rfl ⟨by rw [HM.out.1, HM.out.2, HO.out.1, HO.out.2], by repeat (with_reducible first | exact Below.refl _ _ | assumption | refine Bel.alloc ?_ _ | refine Bel.step (by assumption) ?_ | refine Below.drew ?_ | refine Bel.drewN ?_ _ | refine Below.setCell ?_ (by first | exact Nat.le_refl _ | omega | (simp; done) | (simp; omega)) _)⟩
theorem scaled_c (a b n : Int) (ha1 : -100000000 ≤ a) (ha2 : a ≤ 100000000) (hb1 : -100000000 ≤ b) (hb2 : b ≤ 100000000) (hn1 : -6 ≤ n) (hn2 : n ≤ 6) (w : World) :
    Calls Tryz.prog 110 #[.agg #[.int .i64 a, .int .i64 b], .int .i64 n, .int .i64 1] w fun r w' => r = .returned (.agg #[.int .i64 (mn (a * n) (b * n)), .int .i64 (mx (a * n) (b * n))]) ∧ Below w.heap.size w w' := by
  obtain ⟨p1, p2⟩ := mul_bd a n 100000000 6 ha1 ha2 hn1 hn2
  obtain ⟨p3, p4⟩ := mul_bd b n 100000000 6 hb1 hb2 hn1 hn2
  have e1 : IntKind.i64.wrap (a * n) = a * n := wr64 (by omega) (by omega)
  have e2 : IntKind.i64.wrap (b * n) = b * n := wr64 (by omega) (by omega)
  by_cases hm : a * n < b * n
  · have HM := Lib.hid (And.intro (mn_le (Int.le_of_lt hm)) (mx_le (Int.le_of_lt hm)))
    have HO := Lib.hid (And.intro (Fl_one (a * n)) (Cl_one (b * n)))
    go_enter Tryz.func110, Tryz.ntmps110
    go_wp2
    go_quiet (fail)
    go_wp2_with (first | (go_at_call 134; refine (down_c _ _ (by omega) (by omega) (by omega) (by omega) (by omega) _).mono ?_; rintro e w' ⟨rfl, rfl⟩) | (go_at_call 98; refine (up_c _ _ (by omega) (by omega) (by omega) (by omega) (by omega) _).mono ?_; rintro e w' ⟨rfl, rfl⟩))
    all_goals
      refine bodyPost_ret (v := .agg #[.int .i64 (Fl (a * n) 1), .int .i64 (Cl (b * n) 1)]) (by simp [results, Tryz.results110, go_sem, *]) rfl ⟨by rw [HM.out.1, HM.out.2, HO.out.1, HO.out.2], by repeat (with_reducible first | exact Below.refl _ _ | assumption | refine Bel.alloc ?_ _ | refine Bel.step (by assumption) ?_ | refine Below.drew ?_ | refine Bel.drewN ?_ _ | refine Below.setCell ?_ (by first | exact Nat.le_refl _ | omega | (simp; done) | (simp; omega)) _)⟩
  · by_cases hg : b * n < a * n
    · have HM := Lib.hid (And.intro (mn_ge (Int.le_of_lt hg)) (mx_ge (Int.le_of_lt hg)))
      have HO := Lib.hid (And.intro (Fl_one (b * n)) (Cl_one (a * n)))
      clear hm
      go_enter Tryz.func110, Tryz.ntmps110
      go_wp2
      go_quiet (fail)
      go_wp2_with (first | (go_at_call 134; refine (down_c _ _ (by omega) (by omega) (by omega) (by omega) (by omega) _).mono ?_; rintro e w' ⟨rfl, rfl⟩) | (go_at_call 98; refine (up_c _ _ (by omega) (by omega) (by omega) (by omega) (by omega) _).mono ?_; rintro e w' ⟨rfl, rfl⟩))
      all_goals
        refine bodyPost_ret (v := .agg #[.int .i64 (Fl (b * n) 1), .int .i64 (Cl (a * n) 1)]) (by simp [results, Tryz.results110, go_sem, *]) rfl ⟨by rw [HM.out.1, HM.out.2, HO.out.1, HO.out.2], by repeat (with_reducible first | exact Below.refl _ _ | assumption | refine Bel.alloc ?_ _ | refine Bel.step (by assumption) ?_ | refine Below.drew ?_ | refine Bel.drewN ?_ _ | refine Below.setCell ?_ (by first | exact Nat.le_refl _ | omega | (simp; done) | (simp; omega)) _)⟩
    · have he : b * n = a * n := by omega
      have HM := Lib.hid (show mn (a * n) (b * n) = a * n ∧ mx (a * n) (b * n) = a * n by rw [he]; simp [mn, mx])
      have HO := Lib.hid (And.intro (Fl_one (a * n)) (Cl_one (a * n)))
      have HE := Lib.hid he
      clear hm hg p3 p4 e2 he
      go_enter Tryz.func110, Tryz.ntmps110
      have e2 : IntKind.i64.wrap (b * n) = a * n := by rw [HE.out]; exact e1
      go_wp2
      go_quiet (fail)
      go_wp2_with (first | (go_at_call 134; refine (down_c _ _ (by omega) (by omega) (by omega) (by omega) (by omega) _).mono ?_; rintro e w' ⟨rfl, rfl⟩) | (go_at_call 98; refine (up_c _ _ (by omega) (by omega) (by omega) (by omega) (by omega) _).mono ?_; rintro e w' ⟨rfl, rfl⟩))
      all_goals
        refine bodyPost_ret (v := .agg #[.int .i64 (Fl (a * n) 1), .int .i64 (Cl (a * n) 1)]) (by simp [results, Tryz.results110, go_sem, *]) rfl ⟨by rw [HM.out.1, HM.out.2, HO.out.1, HO.out.2], by repeat (with_reducible first | exact Below.refl _ _ | assumption | refine Bel.alloc ?_ _ | refine Bel.step (by assumption) ?_ | refine Below.drew ?_ | refine Bel.drewN ?_ _ | refine Below.setCell ?_ (by first | exact Nat.le_refl _ | omega | (simp; done) | (simp; omega)) _)⟩
theorem fm_succ (C : Ch) (ps : List (Int × Int)) (k : Nat) : fmT C ps (k + 1) = ((fmT C ps k).1 + mn (fgLo (ps.getD k (0, 0)).1 (ps.getD k (0, 0)).2 * C.zs.getD k 0) (fgHi (ps.getD k (0, 0)).1 (ps.getD k (0, 0)).2 * C.zs.getD k 0),
      (fmT C ps k).2 + mx (fgLo (ps.getD k (0, 0)).1 (ps.getD k (0, 0)).2 * C.zs.getD k 0) (fgHi (ps.getD k (0, 0)).1 (ps.getD k (0, 0)).2 * C.zs.getD k 0)) := by
  rw [fmT]
end Go.Proofs.YtpmcgicopogbhaaGreat
