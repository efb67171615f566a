/- Chapter 24: figures on the line of two others. Conditions: as stated at each contract. -/
import Derived.Test.YtpmcgicopogbhaaProg
import Derived.Test.YtpmcgicopogbhaaBase
import Derived.Test.YtpmcgicopogbhaaL01
import Derived.Test.YtpmcgicopogbhaaCp
import Derived.Test.YtpmcgicopogbhaaL18
import Derived.Test.YtpmcgicopogbhaaL23
import Derived.Test.YtpmcgicopogbhaaL03
import Derived.Test.YtpmcgicopogbhaaL23d
import Derived.Test.YtpmcgicopogbhaaL23e
import Derived.Test.YtpmcgicopogbhaaL23f
import Derived.Test.YtpmcgicopogbhaaL24
import Derived.Test.YtpmcgicopogbhaaL04
import Derived.Test.YtpmcgicopogbhaaL24b
import Derived.Test.YtpmcgicopogbhaaL24c
import Derived.Test.YtpmcgicopogbhaaL24d
import Derived.Test.YtpmcgicopogbhaaL24o
import Derived.WalkKit
import Derived.WalkSpells
import Derived.WalkLawsBesides
import Derived.Lib.Hide
import Derived.Deep.QuietTactic
import Derived.BigQuiet
import Derived.Deep.Draws
import Derived.Deep.RegionHeld3
namespace Go.Proofs.Ytpmcgicopogbhaa
open Go.RowKit
set_option linter.unusedVariables false
theorem lh_le {C : Ch} (h : okCh C = true) {ud ut vd vt : Int} (hc : lhC C ud ut vd vt = 0) : lhL C ud ut vd vt ≤ lhH C ud ut vd vt := by
  have k : plC C 0 ud ut = 0 ∧ plC C 1 vd vt = 0 := by
    unfold lhC at hc
    split at hc
    · assumption
    · cases hc
  obtain ⟨_, e1, e2⟩ := lh_0 k.1 k.2
  obtain ⟨_, _, _, ⟨a1, a2⟩, ⟨a3, a4⟩, _, _⟩ := okCh_iff h
  have m1 := Int.mul_le_mul_of_nonneg_left (pl_le h k.1) (show 0 ≤ C.rt by omega)
  have m2 := Int.mul_le_mul_of_nonneg_left (pl_le h k.2) (show 0 ≤ C.lf by omega)
  rw [e1, e2]
  exact Int.le_trans (Fl_mono (show 0 < C.lf + C.rt by omega) (show C.rt * plL C 0 ud ut + C.lf * plL C 1 vd vt ≤ C.rt * plH C 0 ud ut + C.lf * plH C 1 vd vt by omega)) (Fl_le_Cl (by omega))
theorem rd_le {C : Ch} (h : okCh C = true) {ud ut vd vt e : Int} (hc : lhC C ud ut vd vt = 0) (h1 : 0 ≤ e) (h2 : e ≤ 200) : rdL C ud ut vd vt e ≤ rdH C ud ut vd vt e := by
  obtain ⟨e1, e2⟩ := rd_0 (e := e) hc
  obtain ⟨⟨s1, s2⟩, ⟨t1, t2⟩, _⟩ := rd_wr (e := e) h hc h1 h2
  obtain ⟨⟨d1, d2, _, _⟩, _⟩ := okCh_iff h
  have f := fg_lt (tn := C.tn) d1 d2
  have l := lh_le h hc
  have m := Int.mul_le_mul_of_nonneg_right (show lhL C ud ut vd vt - e ≤ lhH C ud ut vd vt + e by omega) (show 0 ≤ 1048576 * (C.lf + C.rt) by omega)
  have r := Int.le_trans (Fl_mono (show 0 < C.lf * C.rt by omega) m) (Fl_le_Cl (show 0 < C.lf * C.rt by omega))
  rw [e1, e2]
  unfold rdX rdY
  omega
/-- Do two intervals meet? -/
def mtB (a b c d : Int) : Bool := decide (a ≤ d) && decide (c ≤ b)
def olK (C : Ch) (ud ut vd vt xd xt e : Int) : Int := clC C e (okF ud ut && okF vd vt && okF xd xt)
def olC (C : Ch) (ud ut vd vt xd xt e : Int) : Int := if olK C ud ut vd vt xd xt e = 0 then lhC C ud ut vd vt else olK C ud ut vd vt xd xt e
def olB (C : Ch) (ud ut vd vt xd xt e : Int) : Bool := if olC C ud ut vd vt xd xt e = 0 then mtB (fgLo xd xt) (fgHi xd xt) (rdL C ud ut vd vt e) (rdH C ud ut vd vt e) else false
theorem Prs.mk3 (w : World) (T : TypeId) (a b c d e f : Int) : Prs (w.alloc (.cells #[.int .i64 a, .int .i64 b, .int .i64 c, .int .i64 d, .int .i64 e, .int .i64 f] T)) (some ⟨w.heap.size, 0, none⟩) [(a, b), (c, d), (e, f)] := by
  intro _
  refine ⟨_, _, rfl, by simp, fun i hi => ?_⟩
  match i, hi with
  | 0, _ => exact ⟨by simp [go_sem], by simp [go_sem]⟩
  | 1, _ => exact ⟨by simp [go_sem], by simp [go_sem]⟩
  | 2, _ => exact ⟨by simp [go_sem], by simp [go_sem]⟩
theorem okFs_three (a b c d e f : Int) : okFs [(a, b), (c, d), (e, f)] = (okF a b && okF c d && okF e f) := by simp [okFs, Bool.and_assoc]
theorem olK_0 {C : Ch} {ud ut vd vt xd xt e : Int} (h : olK C ud ut vd vt xd xt e = 0) : okCh C = true ∧ okF ud ut = true ∧ okF vd vt = true ∧ okF xd xt = true ∧ 0 ≤ e ∧ e ≤ 200 := by
  obtain ⟨h1, h2, h3⟩ := clC_0 h
  simp only [Bool.and_eq_true] at h2
  have := inB_iff.1 h3
  exact ⟨h1, h2.1.1, h2.1.2, h2.2, this.1, this.2⟩
theorem meet_c (a b c d : Int) (w : World) :
    Calls Try.prog 113 #[.agg #[.int .i64 a, .int .i64 b], .agg #[.int .i64 c, .int .i64 d]] w fun r w' => r = .returned (.bool (mtB a b c d)) ∧ Below w.heap.size w w' := by
  by_cases h : a ≤ d
  · have HV := Lib.hid (show mtB a b c d = decide (c ≤ b) by simp [mtB, h])
    go_enter Try.func113, Try.ntmps113
    go_wp2
    go_ret
    exact ⟨ret_bool HV.out.symm, by repeat (with_reducible first | exact Below.refl _ _ | assumption | refine Bel.alloc ?_ _ | refine Bel.step (by assumption) ?_ | refine Below.drew ?_ | refine Bel.drewN ?_ _ | refine Below.setCell ?_ (by first | exact Nat.le_refl _ | omega | (simp; done) | (simp; omega)) _)⟩
  · have HV := Lib.hid (show mtB a b c d = false by simp [mtB, h])
    go_enter Try.func113, Try.ntmps113
    go_wp2
    go_ret
    exact ⟨ret_bool HV.out.symm, by repeat (with_reducible first | exact Below.refl _ _ | assumption | refine Bel.alloc ?_ _ | refine Bel.step (by assumption) ?_ | refine Below.drew ?_ | refine Bel.drewN ?_ _ | refine Below.setCell ?_ (by first | exact Nat.le_refl _ | omega | (simp; done) | (simp; omega)) _)⟩
set_option maxRecDepth 50000 in
set_option maxHeartbeats 2000000 in
theorem IsOnLine_S (C : Ch) (A : Option Addr) (c : Nat) (ud ut vd vt xd xt e : Int) (hn : C.zs.length ≤ 1048576) (hm : C.nm.size ≤ 1048576) (w : World) (hA : Ints w A C.zs) :
    Calls Try.prog 38 #[.agg #[.int .i64 C.dg, .int .i64 C.tn, .string C.nm, .slice A C.zs.length c, .int .i64 C.wd, .int .i64 C.lf, .int .i64 C.rt], .agg #[.int .i64 ud, .int .i64 ut], .agg #[.int .i64 vd, .int .i64 vt], .agg #[.int .i64 xd, .int .i64 xt], .int .i64 e] w fun r w' => r = .returned (.tuple #[.bool (olB C ud ut vd vt xd xt e), .int .i64 (olC C ud ut vd vt xd xt e)]) ∧ Below w.heap.size w w' := by
  have HI := Lib.hid hA
  clear hA
  have HO := Lib.hid (show olK C ud ut vd vt xd xt e = clC C e (okF ud ut && okF vd vt && okF xd xt) from rfl)
  by_cases hk : olK C ud ut vd vt xd xt e = 0
  rotate_left
  · have HC := Lib.hid (show olC C ud ut vd vt xd xt e = olK C ud ut vd vt xd xt e by simp [olC, hk])
    have HV := Lib.hid (show olB C ud ut vd vt xd xt e = false by simp [olB, olC, hk])
    have b1 : (olK C ud ut vd vt xd xt e != 0) = true := by simpa using hk
    by_cases hx : okF xd xt = true
    · have HE := Lib.hid (show clC C e (okF ud ut && okF vd vt) = olK C ud ut vd vt xd xt e by rw [HO.out, hx, Bool.and_true])
      clear hk
      go_enter Try.func38, Try.ntmps38
      go_wp2_with fail
      go_at_call 109; refine (l24Code_c _ _ _ _ _ _ _ _ hn hm _ (by repeat (with_reducible first | exact HI.out | assumption | refine Ints.drew ?_ | refine Ints.drewN _ ?_ | refine Ints.alloc _ ?_ | refine Ints.step (by assumption) ?_))).mono ?_; rintro e w1 ⟨rfl, hb1⟩; obtain ⟨hc1, hf1, hz1⟩ := bel hb1; (try simp only [World.size_drew, World.cell?_drew, World.frozen?_drew] at hc1 hf1 hz1); (try simp only [World.heap_drewN, World.cell?_drewN, World.frozen?_drewN] at hc1 hf1 hz1); (try have hl1 : w.heap.size < w1.heap.size := by (have hq := hb1.size; (try simp at hq); omega)); (try have hm1 : w.heap.size + 1 < w1.heap.size := by (have hq := hb1.size; (try simp at hq); omega)); (try have hn1 : w.heap.size + 1 + 1 < w1.heap.size := by (have hq := hb1.size; (try simp at hq); omega)); (try have hp1 : b < w1.heap.size := by (have hq := hb1.size; (try simp at hq); omega)); (try have ho1 : b' < w1.heap.size := by (have hq := hb1.size; (try simp at hq); omega))
      rw [HE.out]
      have l3 : w.heap.size + 1 + 1 + 1 < w1.heap.size := by have := hb1.size; (try simp at this); omega
      go_wp2_with fail
      go_at_call 115; refine (IsFigure_S _ _ _).mono ?_; rintro e w2 ⟨rfl, hb2⟩; obtain ⟨hc2, hf2, hz2⟩ := bel hb2; (try simp only [World.size_drew, World.cell?_drew, World.frozen?_drew] at hc2 hf2 hz2); (try simp only [World.heap_drewN, World.cell?_drewN, World.frozen?_drewN] at hc2 hf2 hz2); (try have hl2 : w.heap.size < w2.heap.size := by (have hq := hb2.size; (try simp at hq); omega)); (try have hm2 : w.heap.size + 1 < w2.heap.size := by (have hq := hb2.size; (try simp at hq); omega)); (try have hn2 : w.heap.size + 1 + 1 < w2.heap.size := by (have hq := hb2.size; (try simp at hq); omega)); (try have hp2 : b < w2.heap.size := by (have hq := hb2.size; (try simp at hq); omega)); (try have ho2 : b' < w2.heap.size := by (have hq := hb2.size; (try simp at hq); omega))
      rw [hx]
      go_wp2
      go_ret2
      exact ⟨by rw [HV.out, HC.out]; rfl, by repeat (with_reducible first | exact Below.refl _ _ | assumption | refine Bel.alloc ?_ _ | refine Bel.step (by assumption) ?_ | refine Below.drew ?_ | refine Bel.drewN ?_ _ | refine Below.setCell ?_ (by first | exact Nat.le_refl _ | omega | (simp; done) | (simp; omega)) _)⟩
    · have hx' : okF xd xt = false := by simpa using hx
      have HE := Lib.hid (show olK C ud ut vd vt xd xt e = 1 by rw [HO.out, hx', Bool.and_false]; simp [clC])
      clear hk hx b1
      go_enter Try.func38, Try.ntmps38
      go_wp2_with fail
      go_at_call 109; refine (l24Code_c _ _ _ _ _ _ _ _ hn hm _ (by repeat (with_reducible first | exact HI.out | assumption | refine Ints.drew ?_ | refine Ints.drewN _ ?_ | refine Ints.alloc _ ?_ | refine Ints.step (by assumption) ?_))).mono ?_; rintro e w1 ⟨rfl, hb1⟩; obtain ⟨hc1, hf1, hz1⟩ := bel hb1; (try simp only [World.size_drew, World.cell?_drew, World.frozen?_drew] at hc1 hf1 hz1); (try simp only [World.heap_drewN, World.cell?_drewN, World.frozen?_drewN] at hc1 hf1 hz1); (try have hl1 : w.heap.size < w1.heap.size := by (have hq := hb1.size; (try simp at hq); omega)); (try have hm1 : w.heap.size + 1 < w1.heap.size := by (have hq := hb1.size; (try simp at hq); omega)); (try have hn1 : w.heap.size + 1 + 1 < w1.heap.size := by (have hq := hb1.size; (try simp at hq); omega)); (try have hp1 : b < w1.heap.size := by (have hq := hb1.size; (try simp at hq); omega)); (try have ho1 : b' < w1.heap.size := by (have hq := hb1.size; (try simp at hq); omega))
      have l3 : w.heap.size + 1 + 1 + 1 < w1.heap.size := by have := hb1.size; (try simp at this); omega
      go_wp2_with fail
      go_at_call 115; refine (IsFigure_S _ _ _).mono ?_; rintro e w2 ⟨rfl, hb2⟩; obtain ⟨hc2, hf2, hz2⟩ := bel hb2; (try simp only [World.size_drew, World.cell?_drew, World.frozen?_drew] at hc2 hf2 hz2); (try simp only [World.heap_drewN, World.cell?_drewN, World.frozen?_drewN] at hc2 hf2 hz2); (try have hl2 : w.heap.size < w2.heap.size := by (have hq := hb2.size; (try simp at hq); omega)); (try have hm2 : w.heap.size + 1 < w2.heap.size := by (have hq := hb2.size; (try simp at hq); omega)); (try have hn2 : w.heap.size + 1 + 1 < w2.heap.size := by (have hq := hb2.size; (try simp at hq); omega)); (try have hp2 : b < w2.heap.size := by (have hq := hb2.size; (try simp at hq); omega)); (try have ho2 : b' < w2.heap.size := by (have hq := hb2.size; (try simp at hq); omega))
      rw [hx']
      go_wp2
      go_ret2
      exact ⟨by rw [HV.out, HC.out, HE.out]; rfl, by repeat (with_reducible first | exact Below.refl _ _ | assumption | refine Bel.alloc ?_ _ | refine Bel.step (by assumption) ?_ | refine Below.drew ?_ | refine Bel.drewN ?_ _ | refine Below.setCell ?_ (by first | exact Nat.le_refl _ | omega | (simp; done) | (simp; omega)) _)⟩
  obtain ⟨h, hu, hv, hx, e1, e2⟩ := olK_0 hk
  have HKK := Lib.hid (show clC C e (okF ud ut && okF vd vt) = 0 by rw [HO.out, hx, Bool.and_true] at hk; exact hk)
  obtain ⟨x1, x2, x3, x4⟩ := okF_iff hx
  obtain ⟨g1, g2, g3, g4⟩ := fg_bd x1 x2 (by omega) (by omega : xt ≤ 40)
  by_cases k : lhC C ud ut vd vt = 0
  rotate_left
  · have HK := Lib.hid (rd_3 (e := e) k)
    have HC := Lib.hid (show olC C ud ut vd vt xd xt e = 3 by simp [olC, hk, (rd_3 (e := e) k).1])
    have HV := Lib.hid (show olB C ud ut vd vt xd xt e = false by simp [olB, olC, hk, (rd_3 (e := e) k).1])
    have HH := Lib.hid hk
    clear hk k
    go_enter Try.func38, Try.ntmps38
    go_wp2_with fail
    go_at_call 109; refine (l24Code_c _ _ _ _ _ _ _ _ hn hm _ (by repeat (with_reducible first | exact HI.out | assumption | refine Ints.drew ?_ | refine Ints.drewN _ ?_ | refine Ints.alloc _ ?_ | refine Ints.step (by assumption) ?_))).mono ?_; rintro e w1 ⟨rfl, hb1⟩; obtain ⟨hc1, hf1, hz1⟩ := bel hb1; (try simp only [World.size_drew, World.cell?_drew, World.frozen?_drew] at hc1 hf1 hz1); (try simp only [World.heap_drewN, World.cell?_drewN, World.frozen?_drewN] at hc1 hf1 hz1); (try have hl1 : w.heap.size < w1.heap.size := by (have hq := hb1.size; (try simp at hq); omega)); (try have hm1 : w.heap.size + 1 < w1.heap.size := by (have hq := hb1.size; (try simp at hq); omega)); (try have hn1 : w.heap.size + 1 + 1 < w1.heap.size := by (have hq := hb1.size; (try simp at hq); omega)); (try have hp1 : b < w1.heap.size := by (have hq := hb1.size; (try simp at hq); omega)); (try have ho1 : b' < w1.heap.size := by (have hq := hb1.size; (try simp at hq); omega))
    rw [HKK.out]
    have l3 : w.heap.size + 1 + 1 + 1 < w1.heap.size := by have := hb1.size; (try simp at this); omega
    go_wp2_with fail
    go_at_call 115; refine (IsFigure_S _ _ _).mono ?_; rintro e w2 ⟨rfl, hb2⟩; obtain ⟨hc2, hf2, hz2⟩ := bel hb2; (try simp only [World.size_drew, World.cell?_drew, World.frozen?_drew] at hc2 hf2 hz2); (try simp only [World.heap_drewN, World.cell?_drewN, World.frozen?_drewN] at hc2 hf2 hz2); (try have hl2 : w.heap.size < w2.heap.size := by (have hq := hb2.size; (try simp at hq); omega)); (try have hm2 : w.heap.size + 1 < w2.heap.size := by (have hq := hb2.size; (try simp at hq); omega)); (try have hn2 : w.heap.size + 1 + 1 < w2.heap.size := by (have hq := hb2.size; (try simp at hq); omega)); (try have hp2 : b < w2.heap.size := by (have hq := hb2.size; (try simp at hq); omega)); (try have ho2 : b' < w2.heap.size := by (have hq := hb2.size; (try simp at hq); omega))
    rw [hx]
    have l4 : w.heap.size + 1 + 1 + 1 < w2.heap.size := by have := hb2.size; (try simp at this); omega
    go_wp2_with fail
    go_at_call 116; refine (l24Read_c _ _ _ _ _ _ _ _ hn hm h hu hv e1 e2 _ (by repeat (with_reducible first | exact HI.out | assumption | refine Ints.drew ?_ | refine Ints.drewN _ ?_ | refine Ints.alloc _ ?_ | refine Ints.step (by assumption) ?_))).mono ?_; rintro e w3 ⟨rfl, hb3⟩; obtain ⟨hc3, hf3, hz3⟩ := bel hb3; (try simp only [World.size_drew, World.cell?_drew, World.frozen?_drew] at hc3 hf3 hz3); (try simp only [World.heap_drewN, World.cell?_drewN, World.frozen?_drewN] at hc3 hf3 hz3); (try have hl3 : w.heap.size < w3.heap.size := by (have hq := hb3.size; (try simp at hq); omega)); (try have hm3 : w.heap.size + 1 < w3.heap.size := by (have hq := hb3.size; (try simp at hq); omega)); (try have hn3 : w.heap.size + 1 + 1 < w3.heap.size := by (have hq := hb3.size; (try simp at hq); omega)); (try have hp3 : b < w3.heap.size := by (have hq := hb3.size; (try simp at hq); omega)); (try have ho3 : b' < w3.heap.size := by (have hq := hb3.size; (try simp at hq); omega))
    rw [HK.out.1]
    go_wp2
    go_ret2
    exact ⟨by rw [HV.out, HC.out]; rfl, by repeat (with_reducible first | exact Below.refl _ _ | assumption | refine Bel.alloc ?_ _ | refine Bel.step (by assumption) ?_ | refine Below.drew ?_ | refine Bel.drewN ?_ _ | refine Below.setCell ?_ (by first | exact Nat.le_refl _ | omega | (simp; done) | (simp; omega)) _)⟩
  have HC := Lib.hid (show olC C ud ut vd vt xd xt e = 0 by simp [olC, hk, k])
  have HV := Lib.hid (show olB C ud ut vd vt xd xt e = mtB (fgLo xd xt) (fgHi xd xt) (rdL C ud ut vd vt e) (rdH C ud ut vd vt e) by simp [olB, olC, hk, k])
  have hle := rd_le h k e1 e2
  have hlt := fg_lt (tn := xt) x1 x2
  obtain ⟨r1, r2, r3, r4⟩ := rd_bd (e := e) h k e1 e2
  have HH := Lib.hid hk
  have HK := Lib.hid k
  clear hk k
  go_enter Try.func38, Try.ntmps38
  go_wp2_with fail
  go_at_call 109; refine (l24Code_c _ _ _ _ _ _ _ _ hn hm _ (by repeat (with_reducible first | exact HI.out | assumption | refine Ints.drew ?_ | refine Ints.drewN _ ?_ | refine Ints.alloc _ ?_ | refine Ints.step (by assumption) ?_))).mono ?_; rintro e w1 ⟨rfl, hb1⟩; obtain ⟨hc1, hf1, hz1⟩ := bel hb1; (try simp only [World.size_drew, World.cell?_drew, World.frozen?_drew] at hc1 hf1 hz1); (try simp only [World.heap_drewN, World.cell?_drewN, World.frozen?_drewN] at hc1 hf1 hz1); (try have hl1 : w.heap.size < w1.heap.size := by (have hq := hb1.size; (try simp at hq); omega)); (try have hm1 : w.heap.size + 1 < w1.heap.size := by (have hq := hb1.size; (try simp at hq); omega)); (try have hn1 : w.heap.size + 1 + 1 < w1.heap.size := by (have hq := hb1.size; (try simp at hq); omega)); (try have hp1 : b < w1.heap.size := by (have hq := hb1.size; (try simp at hq); omega)); (try have ho1 : b' < w1.heap.size := by (have hq := hb1.size; (try simp at hq); omega))
  rw [HKK.out]
  have l3 : w.heap.size + 1 + 1 + 1 < w1.heap.size := by have := hb1.size; (try simp at this); omega
  go_wp2_with fail
  go_at_call 115; refine (IsFigure_S _ _ _).mono ?_; rintro e w2 ⟨rfl, hb2⟩; obtain ⟨hc2, hf2, hz2⟩ := bel hb2; (try simp only [World.size_drew, World.cell?_drew, World.frozen?_drew] at hc2 hf2 hz2); (try simp only [World.heap_drewN, World.cell?_drewN, World.frozen?_drewN] at hc2 hf2 hz2); (try have hl2 : w.heap.size < w2.heap.size := by (have hq := hb2.size; (try simp at hq); omega)); (try have hm2 : w.heap.size + 1 < w2.heap.size := by (have hq := hb2.size; (try simp at hq); omega)); (try have hn2 : w.heap.size + 1 + 1 < w2.heap.size := by (have hq := hb2.size; (try simp at hq); omega)); (try have hp2 : b < w2.heap.size := by (have hq := hb2.size; (try simp at hq); omega)); (try have ho2 : b' < w2.heap.size := by (have hq := hb2.size; (try simp at hq); omega))
  rw [hx]
  have l4 : w.heap.size + 1 + 1 + 1 < w2.heap.size := by have := hb2.size; (try simp at this); omega
  go_wp2_with fail
  go_at_call 116; refine (l24Read_c _ _ _ _ _ _ _ _ hn hm h hu hv e1 e2 _ (by repeat (with_reducible first | exact HI.out | assumption | refine Ints.drew ?_ | refine Ints.drewN _ ?_ | refine Ints.alloc _ ?_ | refine Ints.step (by assumption) ?_))).mono ?_; rintro e w3 ⟨rfl, hb3⟩; obtain ⟨hc3, hf3, hz3⟩ := bel hb3; (try simp only [World.size_drew, World.cell?_drew, World.frozen?_drew] at hc3 hf3 hz3); (try simp only [World.heap_drewN, World.cell?_drewN, World.frozen?_drewN] at hc3 hf3 hz3); (try have hl3 : w.heap.size < w3.heap.size := by (have hq := hb3.size; (try simp at hq); omega)); (try have hm3 : w.heap.size + 1 < w3.heap.size := by (have hq := hb3.size; (try simp at hq); omega)); (try have hn3 : w.heap.size + 1 + 1 < w3.heap.size := by (have hq := hb3.size; (try simp at hq); omega)); (try have hp3 : b < w3.heap.size := by (have hq := hb3.size; (try simp at hq); omega)); (try have ho3 : b' < w3.heap.size := by (have hq := hb3.size; (try simp at hq); omega))
  rw [HK.out]
  have l5 : w.heap.size + 1 + 1 + 1 < w3.heap.size := by have := hb3.size; (try simp at this); omega
  go_wp2_with fail
  go_at_call 117; refine (l03Figure_c _ _ (by omega) (by omega) (by omega) (by omega) _).mono ?_; rintro e w4 ⟨rfl, hb4⟩; obtain ⟨hc4, hf4, hz4⟩ := bel hb4; (try simp only [World.size_drew, World.cell?_drew, World.frozen?_drew] at hc4 hf4 hz4); (try simp only [World.heap_drewN, World.cell?_drewN, World.frozen?_drewN] at hc4 hf4 hz4); (try have hl4 : w.heap.size < w4.heap.size := by (have hq := hb4.size; (try simp at hq); omega)); (try have hm4 : w.heap.size + 1 < w4.heap.size := by (have hq := hb4.size; (try simp at hq); omega)); (try have hn4 : w.heap.size + 1 + 1 < w4.heap.size := by (have hq := hb4.size; (try simp at hq); omega)); (try have hp4 : b < w4.heap.size := by (have hq := hb4.size; (try simp at hq); omega)); (try have ho4 : b' < w4.heap.size := by (have hq := hb4.size; (try simp at hq); omega))
  have l6 : w3.heap.size < w4.heap.size := by have := hb4.size; (try simp at this); omega
  have HM := Lib.hid (show mtB (fgLo xd xt) (fgHi xd xt) (rdL C ud ut vd vt e) (rdH C ud ut vd vt e) = (decide (fgLo xd xt ≤ rdH C ud ut vd vt e) && decide (rdL C ud ut vd vt e ≤ fgHi xd xt)) from rfl)
  generalize rdL C ud ut vd vt e = a at *
  generalize rdH C ud ut vd vt e = b at *
  generalize fgLo xd xt = p at *
  generalize fgHi xd xt = q at *
  go_wp2
  all_goals
    go_ret2
    refine ⟨?_, by repeat (with_reducible first | exact Below.refl _ _ | assumption | refine Bel.alloc ?_ _ | refine Bel.step (by assumption) ?_ | refine Below.drew ?_ | refine Bel.drewN ?_ _ | refine Below.setCell ?_ (by first | exact Nat.le_refl _ | omega | (simp; done) | (simp; omega)) _)⟩
    rw [HV.out, HC.out, HM.out]
    refine congrArg (fun z => Ending.returned (.tuple #[.bool z, .int .i64 0])) ?_
    rw [Bool.eq_iff_iff]
    simp only [Bool.and_eq_true, decide_eq_true_eq, true_iff, iff_true, Bool.false_eq_true, false_iff]
    omega
set_option maxRecDepth 50000 in
set_option maxHeartbeats 2000000 in
theorem IsOnLine_I (C : Ch) (A : Option Addr) (c : Nat) (ud ut vd vt xd xt e : Int) (hn : C.zs.length ≤ 1048576) (hm : C.nm.size ≤ 1048576) (w : World) (hA : Ints w A C.zs) :
    Calls Try.prog 37 #[.agg #[.int .i64 C.dg, .int .i64 C.tn, .string C.nm, .slice A C.zs.length c, .int .i64 C.wd, .int .i64 C.lf, .int .i64 C.rt], .agg #[.int .i64 ud, .int .i64 ut], .agg #[.int .i64 vd, .int .i64 vt], .agg #[.int .i64 xd, .int .i64 xt], .int .i64 e] w fun r w' => r = .returned (.tuple #[.bool (olB C ud ut vd vt xd xt e), .int .i64 (olC C ud ut vd vt xd xt e)]) ∧ Below w.heap.size w w' := by
  have hP := Prs.mk3 ((((w.alloc (.cells #[.int .i64 C.dg, .int .i64 C.tn, .string C.nm, .slice A C.zs.length c, .int .i64 C.wd, .int .i64 C.lf, .int .i64 C.rt] 30)).alloc (.cells #[.int .i64 ud, .int .i64 ut] 25)).alloc (.cells #[.int .i64 vd, .int .i64 vt] 25)).alloc (.cells #[.int .i64 xd, .int .i64 xt] 25)) 25 ud ut vd vt xd xt
  simp only [World.size_alloc] at hP
  have HI := Lib.hid hA
  clear hA
  have HO := Lib.hid (show olK C ud ut vd vt xd xt e = clC C e (okF ud ut && okF vd vt && okF xd xt) from rfl)
  by_cases hk : olK C ud ut vd vt xd xt e = 0
  rotate_left
  · have HC := Lib.hid (show olC C ud ut vd vt xd xt e = olK C ud ut vd vt xd xt e by simp [olC, hk])
    have HV := Lib.hid (show olB C ud ut vd vt xd xt e = false by simp [olB, olC, hk])
    have b1 : (olK C ud ut vd vt xd xt e != 0) = true := by simpa using hk
    clear hk
    go_enter Try.func37, Try.ntmps37
    go_wp2_with fail
    go_at_call 78; refine (checkLine_c C A c e _ 3 [(ud, ut), (vd, vt), (xd, xt)] hn hm (by simp) _ (by repeat (with_reducible first | exact HI.out | assumption | refine Ints.drew ?_ | refine Ints.drewN _ ?_ | refine Ints.alloc _ ?_ | refine Ints.step (by assumption) ?_)) hP).mono ?_; rintro e w1 ⟨rfl, hb1⟩; obtain ⟨hc1, hf1, hz1⟩ := bel hb1; (try simp only [World.size_drew, World.cell?_drew, World.frozen?_drew] at hc1 hf1 hz1); (try simp only [World.heap_drewN, World.cell?_drewN, World.frozen?_drewN] at hc1 hf1 hz1); (try have hl1 : w.heap.size < w1.heap.size := by (have hq := hb1.size; (try simp at hq); omega)); (try have hm1 : w.heap.size + 1 < w1.heap.size := by (have hq := hb1.size; (try simp at hq); omega)); (try have hn1 : w.heap.size + 1 + 1 < w1.heap.size := by (have hq := hb1.size; (try simp at hq); omega)); (try have hp1 : b < w1.heap.size := by (have hq := hb1.size; (try simp at hq); omega)); (try have ho1 : b' < w1.heap.size := by (have hq := hb1.size; (try simp at hq); omega))
    rw [okFs_three, ← HO.out]
    go_wp2
    go_ret2
    exact ⟨by rw [HV.out, HC.out]; rfl, by repeat (with_reducible first | exact Below.refl _ _ | assumption | refine Bel.alloc ?_ _ | refine Bel.step (by assumption) ?_ | refine Below.drew ?_ | refine Bel.drewN ?_ _ | refine Below.setCell ?_ (by first | exact Nat.le_refl _ | omega | (simp; done) | (simp; omega)) _)⟩
  obtain ⟨h, hu, hv, hx, e1, e2⟩ := olK_0 hk
  have HKK := Lib.hid (show clC C e (okF ud ut && okF vd vt) = 0 by rw [HO.out, hx, Bool.and_true] at hk; exact hk)
  obtain ⟨x1, x2, x3, x4⟩ := okF_iff hx
  obtain ⟨g1, g2, g3, g4⟩ := fg_bd x1 x2 (by omega) (by omega : xt ≤ 40)
  by_cases k : lhC C ud ut vd vt = 0
  rotate_left
  · have HK := Lib.hid (rd_3 (e := e) k)
    have HC := Lib.hid (show olC C ud ut vd vt xd xt e = 3 by simp [olC, hk, (rd_3 (e := e) k).1])
    have HV := Lib.hid (show olB C ud ut vd vt xd xt e = false by simp [olB, olC, hk, (rd_3 (e := e) k).1])
    have HH := Lib.hid hk
    clear hk k
    go_enter Try.func37, Try.ntmps37
    go_wp2_with fail
    go_at_call 78; refine (checkLine_c C A c e _ 3 [(ud, ut), (vd, vt), (xd, xt)] hn hm (by simp) _ (by repeat (with_reducible first | exact HI.out | assumption | refine Ints.drew ?_ | refine Ints.drewN _ ?_ | refine Ints.alloc _ ?_ | refine Ints.step (by assumption) ?_)) hP).mono ?_; rintro e w1 ⟨rfl, hb1⟩; obtain ⟨hc1, hf1, hz1⟩ := bel hb1; (try simp only [World.size_drew, World.cell?_drew, World.frozen?_drew] at hc1 hf1 hz1); (try simp only [World.heap_drewN, World.cell?_drewN, World.frozen?_drewN] at hc1 hf1 hz1); (try have hl1 : w.heap.size < w1.heap.size := by (have hq := hb1.size; (try simp at hq); omega)); (try have hm1 : w.heap.size + 1 < w1.heap.size := by (have hq := hb1.size; (try simp at hq); omega)); (try have hn1 : w.heap.size + 1 + 1 < w1.heap.size := by (have hq := hb1.size; (try simp at hq); omega)); (try have hp1 : b < w1.heap.size := by (have hq := hb1.size; (try simp at hq); omega)); (try have ho1 : b' < w1.heap.size := by (have hq := hb1.size; (try simp at hq); omega))
    rw [okFs_three, ← HO.out, HH.out]
    go_wp2_with fail
    go_at_call 79; refine (readChart_c _ _ _ _ _ _ _ _ hn hm h hu hv e1 e2 _ (by repeat (with_reducible first | exact HI.out | assumption | refine Ints.drew ?_ | refine Ints.drewN _ ?_ | refine Ints.alloc _ ?_ | refine Ints.step (by assumption) ?_))).mono ?_; rintro e w3 ⟨rfl, hb3⟩; obtain ⟨hc3, hf3, hz3⟩ := bel hb3; (try simp only [World.size_drew, World.cell?_drew, World.frozen?_drew] at hc3 hf3 hz3); (try simp only [World.heap_drewN, World.cell?_drewN, World.frozen?_drewN] at hc3 hf3 hz3); (try have hl3 : w.heap.size < w3.heap.size := by (have hq := hb3.size; (try simp at hq); omega)); (try have hm3 : w.heap.size + 1 < w3.heap.size := by (have hq := hb3.size; (try simp at hq); omega)); (try have hn3 : w.heap.size + 1 + 1 < w3.heap.size := by (have hq := hb3.size; (try simp at hq); omega)); (try have hp3 : b < w3.heap.size := by (have hq := hb3.size; (try simp at hq); omega)); (try have ho3 : b' < w3.heap.size := by (have hq := hb3.size; (try simp at hq); omega))
    rw [HK.out.1]
    go_wp2
    go_ret2
    exact ⟨by rw [HV.out, HC.out]; rfl, by repeat (with_reducible first | exact Below.refl _ _ | assumption | refine Bel.alloc ?_ _ | refine Bel.step (by assumption) ?_ | refine Below.drew ?_ | refine Bel.drewN ?_ _ | refine Below.setCell ?_ (by first | exact Nat.le_refl _ | omega | (simp; done) | (simp; omega)) _)⟩
  have HC := Lib.hid (show olC C ud ut vd vt xd xt e = 0 by simp [olC, hk, k])
  have HV := Lib.hid (show olB C ud ut vd vt xd xt e = mtB (fgLo xd xt) (fgHi xd xt) (rdL C ud ut vd vt e) (rdH C ud ut vd vt e) by simp [olB, olC, hk, k])
  have hle := rd_le h k e1 e2
  have hlt := fg_lt (tn := xt) x1 x2
  obtain ⟨r1, r2, r3, r4⟩ := rd_bd (e := e) h k e1 e2
  have HH := Lib.hid hk
  have HK := Lib.hid k
  clear hk k
  go_enter Try.func37, Try.ntmps37
  go_wp2_with fail
  go_at_call 78; refine (checkLine_c C A c e _ 3 [(ud, ut), (vd, vt), (xd, xt)] hn hm (by simp) _ (by repeat (with_reducible first | exact HI.out | assumption | refine Ints.drew ?_ | refine Ints.drewN _ ?_ | refine Ints.alloc _ ?_ | refine Ints.step (by assumption) ?_)) hP).mono ?_; rintro e w1 ⟨rfl, hb1⟩; obtain ⟨hc1, hf1, hz1⟩ := bel hb1; (try simp only [World.size_drew, World.cell?_drew, World.frozen?_drew] at hc1 hf1 hz1); (try simp only [World.heap_drewN, World.cell?_drewN, World.frozen?_drewN] at hc1 hf1 hz1); (try have hl1 : w.heap.size < w1.heap.size := by (have hq := hb1.size; (try simp at hq); omega)); (try have hm1 : w.heap.size + 1 < w1.heap.size := by (have hq := hb1.size; (try simp at hq); omega)); (try have hn1 : w.heap.size + 1 + 1 < w1.heap.size := by (have hq := hb1.size; (try simp at hq); omega)); (try have hp1 : b < w1.heap.size := by (have hq := hb1.size; (try simp at hq); omega)); (try have ho1 : b' < w1.heap.size := by (have hq := hb1.size; (try simp at hq); omega))
  rw [okFs_three, ← HO.out, HH.out]
  have l3 : w.heap.size + 1 + 1 + 1 < w1.heap.size := by have := hb1.size; (try simp at this); omega
  go_wp2_with fail
  go_at_call 79; refine (readChart_c _ _ _ _ _ _ _ _ hn hm h hu hv e1 e2 _ (by repeat (with_reducible first | exact HI.out | assumption | refine Ints.drew ?_ | refine Ints.drewN _ ?_ | refine Ints.alloc _ ?_ | refine Ints.step (by assumption) ?_))).mono ?_; rintro e w3 ⟨rfl, hb3⟩; obtain ⟨hc3, hf3, hz3⟩ := bel hb3; (try simp only [World.size_drew, World.cell?_drew, World.frozen?_drew] at hc3 hf3 hz3); (try simp only [World.heap_drewN, World.cell?_drewN, World.frozen?_drewN] at hc3 hf3 hz3); (try have hl3 : w.heap.size < w3.heap.size := by (have hq := hb3.size; (try simp at hq); omega)); (try have hm3 : w.heap.size + 1 < w3.heap.size := by (have hq := hb3.size; (try simp at hq); omega)); (try have hn3 : w.heap.size + 1 + 1 < w3.heap.size := by (have hq := hb3.size; (try simp at hq); omega)); (try have hp3 : b < w3.heap.size := by (have hq := hb3.size; (try simp at hq); omega)); (try have ho3 : b' < w3.heap.size := by (have hq := hb3.size; (try simp at hq); omega))
  rw [HK.out]
  have l5 : w.heap.size + 1 + 1 + 1 < w3.heap.size := by have := hb3.size; (try simp at this); omega
  have q0 : w3.cell? ⟨w.heap.size + 1 + 1 + 1, 0, none⟩ = some (.int .i64 xd) := by simp [go_sem, *]
  have q1 : w3.cell? ⟨w.heap.size + 1 + 1 + 1, 1, none⟩ = some (.int .i64 xt) := by simp [go_sem, *]
  have hbel3 : Below w.heap.size w w3 := by repeat (with_reducible first | exact Below.refl _ _ | assumption | refine Bel.alloc ?_ _ | refine Bel.step (by assumption) ?_ | refine Below.drew ?_ | refine Bel.drewN ?_ _ | refine Below.setCell ?_ (by first | exact Nat.le_refl _ | omega | (simp; done) | (simp; omega)) _)
  clear hb1 hc1 hf1 hz1 hb3 hc3 hf3 hz3
  generalize rdL C ud ut vd vt e = a at *
  generalize rdH C ud ut vd vt e = b at *
  go_wp2
  generalize hV : w3.alloc (.cells #[.int .i64 a, .int .i64 b] 39) = V
  have hbV : Below w3.heap.size w3 V := by rw [← hV]; repeat (with_reducible first | exact Below.refl _ _ | assumption | refine Bel.alloc ?_ _ | refine Bel.step (by assumption) ?_ | refine Below.drew ?_ | refine Bel.drewN ?_ _ | refine Below.setCell ?_ (by first | exact Nat.le_refl _ | omega | (simp; done) | (simp; omega)) _)
  have y0 : V.cell? ⟨w3.heap.size, 0, none⟩ = some (.int .i64 a) := by rw [← hV]; simp [go_sem]
  have y1 : V.cell? ⟨w3.heap.size, 1, none⟩ = some (.int .i64 b) := by rw [← hV]; simp [go_sem]
  have y2 : w3.heap.size < V.heap.size := by rw [← hV]; simp
  have z0 := ((bel hbV).1 _ _ l5).trans q0
  have z1 := ((bel hbV).1 _ _ l5).trans q1
  have z2 := (bel hbV).2.2 _ l5
  have hbelV := Bel.step hbV hbel3
  clear hV hbV q0 q1
  generalize w3.heap.size = X at *
  go_region_held3 (fun w' => w'.cell? ⟨w.heap.size + 1 + 1 + 1, 0, none⟩ = some (.int .i64 xd) ∧ w'.cell? ⟨w.heap.size + 1 + 1 + 1, 1, none⟩ = some (.int .i64 xt) ∧ w'.cell? ⟨X, 0, none⟩ = some (.int .i64 a) ∧ w'.cell? ⟨X, 1, none⟩ = some (.int .i64 b)) (simp [go_sem, *])
      (first | (go_at_call 114; refine (figureLog_c _ _ (by omega) (by omega) (by omega) (by omega) _).mono ?_; rintro e wa ⟨rfl, hba⟩; obtain ⟨hca, hfa, hza⟩ := bel hba; (try simp only [World.size_drew, World.cell?_drew, World.frozen?_drew] at hca hfa hza); (try simp only [World.heap_drewN, World.cell?_drewN, World.frozen?_drewN] at hca hfa hza); (try have hla : w.heap.size < wa.heap.size := by (have hq := hba.size; (try simp at hq); omega)); (try have hma : w.heap.size + 1 < wa.heap.size := by (have hq := hba.size; (try simp at hq); omega)); (try have hna : w.heap.size + 1 + 1 < wa.heap.size := by (have hq := hba.size; (try simp at hq); omega)); (try have hpa : b < wa.heap.size := by (have hq := hba.size; (try simp at hq); omega)); (try have hoa : b' < wa.heap.size := by (have hq := hba.size; (try simp at hq); omega)); (try have yyaX : X < wa.heap.size := hza _ (by first | assumption | (simp; done) | (simp; omega))); (try have yyar3 : w.heap.size + 1 + 1 + 1 < wa.heap.size := hza _ (by first | assumption | (simp; done) | (simp; omega)))) | (go_at_call 113; refine (meet_c _ _ _ _ _).mono ?_; rintro e wx ⟨rfl, hbx⟩; obtain ⟨hcx, hfx, hzx⟩ := bel hbx; (try simp only [World.size_drew, World.cell?_drew, World.frozen?_drew] at hcx hfx hzx); (try simp only [World.heap_drewN, World.cell?_drewN, World.frozen?_drewN] at hcx hfx hzx); (try have hlx : w.heap.size < wx.heap.size := by (have hq := hbx.size; (try simp at hq); omega)); (try have hmx : w.heap.size + 1 < wx.heap.size := by (have hq := hbx.size; (try simp at hq); omega)); (try have hnx : w.heap.size + 1 + 1 < wx.heap.size := by (have hq := hbx.size; (try simp at hq); omega)); (try have hpx : b < wx.heap.size := by (have hq := hbx.size; (try simp at hq); omega)); (try have hox : b' < wx.heap.size := by (have hq := hbx.size; (try simp at hq); omega)); (try have yyxX : X < wx.heap.size := hzx _ (by first | assumption | (simp; done) | (simp; omega))); (try have yyxr3 : w.heap.size + 1 + 1 + 1 < wx.heap.size := hzx _ (by first | assumption | (simp; done) | (simp; omega)))))
  all_goals
    go_wp2
    go_ret2
    exact ⟨by rw [HV.out, HC.out]; rfl, by repeat (with_reducible first | exact Below.refl _ _ | assumption | refine Bel.alloc ?_ _ | refine Bel.step (by assumption) ?_ | refine Below.drew ?_ | refine Bel.drewN ?_ _ | refine Below.setCell ?_ (by first | exact Nat.le_refl _ | omega | (simp; done) | (simp; omega)) _)⟩
end Go.Proofs.Ytpmcgicopogbhaa
