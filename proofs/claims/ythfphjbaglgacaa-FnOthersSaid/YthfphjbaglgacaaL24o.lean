/- Chapter 24: the other figure on a line. Conditions: as stated at each contract. -/
import Derived.Test.YthfphjbaglgacaaProg
import Derived.Test.YthfphjbaglgacaaBase
import Derived.Test.YthfphjbaglgacaaL01
import Derived.Test.YthfphjbaglgacaaCp
import Derived.Test.YthfphjbaglgacaaL18
import Derived.Test.YthfphjbaglgacaaL23
import Derived.Test.YthfphjbaglgacaaL03
import Derived.Test.YthfphjbaglgacaaL23d
import Derived.Test.YthfphjbaglgacaaL23e
import Derived.Test.YthfphjbaglgacaaL23f
import Derived.Test.YthfphjbaglgacaaL24
import Derived.Test.YthfphjbaglgacaaL04
import Derived.Test.YthfphjbaglgacaaL24b
import Derived.WalkKit
import Derived.WalkSpells
import Derived.WalkLawsBesides
import Derived.Lib.Hide
import Derived.Deep.QuietTactic
import Derived.BigQuiet
import Derived.Deep.Draws
import Derived.Deep.RegionHeld3
namespace Go.Proofs.Ythfphjbaglgacaa
open Go.RowKit
set_option linter.unusedVariables false
theorem cp_le {C : Ch} (h : okCh C = true) (sc dg tn : Int) : cpL C sc dg tn ≤ cpH C sc dg tn := by
  obtain ⟨d1, d2⟩ := cpD_bd h sc
  have hm : mn (cpA C sc dg tn * cpN C sc) (cpB C sc dg tn * cpN C sc) ≤ mx (cpA C sc dg tn * cpN C sc) (cpB C sc dg tn * cpN C sc) := by unfold mn mx; split <;> omega
  exact Int.le_trans (Fl_mono (by omega) hm) (Fl_le_Cl (by omega))
theorem pl_le {C : Ch} (h : okCh C = true) {sc dg tn : Int} (hp : plC C sc dg tn = 0) : plL C sc dg tn ≤ plH C sc dg tn := by
  have := cp_le h sc dg tn
  simp only [plL, plH, hp, if_true]; exact this
def foD (C : Ch) : Int := C.lf + C.rt
def foM (C : Ch) : Int := C.rt * P1 C
def foE (C : Ch) (e : Int) : Int := Cl (e * (C.lf + C.rt)) C.lf
def foLo (C : Ch) (ud ut xd xt e : Int) : Int := Fl ((C.lf + C.rt) * plL C 2 xd xt - C.rt * plH C 0 ud ut) C.lf - Cl (e * (C.lf + C.rt)) C.lf
def foHi (C : Ch) (ud ut xd xt e : Int) : Int := Cl ((C.lf + C.rt) * plH C 2 xd xt - C.rt * plL C 0 ud ut) C.lf + Cl (e * (C.lf + C.rt)) C.lf
def foX (C : Ch) (ud ut xd xt e : Int) : Int := mn (Fl (foLo C ud ut xd xt e * 1048576) (foM C)) (Fl (foHi C ud ut xd xt e * 1048576) (foM C))
def foY (C : Ch) (ud ut xd xt e : Int) : Int := mx (Cl (foLo C ud ut xd xt e * 1048576) (foM C)) (Cl (foHi C ud ut xd xt e * 1048576) (foM C))
def fpC (C : Ch) (ud ut xd xt : Int) : Int := if plC C 0 ud ut = 0 ∧ plC C 2 xd xt = 0 then 0 else 3
def foC (C : Ch) (ud ut xd xt e : Int) : Int := if clC C e (okF ud ut && okF xd xt) = 0 then fpC C ud ut xd xt else clC C e (okF ud ut && okF xd xt)
def foL (C : Ch) (ud ut xd xt e : Int) : Int := if foC C ud ut xd xt e = 0 then foX C ud ut xd xt e else 0
def foH (C : Ch) (ud ut xd xt e : Int) : Int := if foC C ud ut xd xt e = 0 then foY C ud ut xd xt e else 0
theorem fo_no {C : Ch} {ud ut xd xt e : Int} (h : clC C e (okF ud ut && okF xd xt) ≠ 0) : foC C ud ut xd xt e = clC C e (okF ud ut && okF xd xt) ∧ foL C ud ut xd xt e = 0 ∧ foH C ud ut xd xt e = 0 := by
  have : foC C ud ut xd xt e = clC C e (okF ud ut && okF xd xt) := by simp [foC, h]
  exact ⟨this, by simp [foL, this, h], by simp [foH, this, h]⟩
theorem fo_3 {C : Ch} {ud ut xd xt e : Int} (h : clC C e (okF ud ut && okF xd xt) = 0) (h3 : plC C 0 ud ut ≠ 0 ∨ plC C 2 xd xt ≠ 0) : foC C ud ut xd xt e = 3 ∧ foL C ud ut xd xt e = 0 ∧ foH C ud ut xd xt e = 0 := by
  have h4 : fpC C ud ut xd xt = 3 := by
    unfold fpC
    rw [if_neg]
    rintro ⟨a, b⟩
    rcases h3 with h3 | h3
    · exact h3 a
    · exact h3 b
  have : foC C ud ut xd xt e = 3 := by simp [foC, h, h4]
  exact ⟨this, by simp [foL, this], by simp [foH, this]⟩
theorem fo_0 {C : Ch} {ud ut xd xt e : Int} (h : clC C e (okF ud ut && okF xd xt) = 0) (h1 : plC C 0 ud ut = 0) (h2 : plC C 2 xd xt = 0) : foC C ud ut xd xt e = 0 ∧ foL C ud ut xd xt e = foX C ud ut xd xt e ∧ foH C ud ut xd xt e = foY C ud ut xd xt e := by
  have : foC C ud ut xd xt e = 0 := by simp [foC, h, fpC, h1, h2]
  exact ⟨this, by simp [foL, this], by simp [foH, this]⟩
theorem Fl_anti {a b c : Int} (hc : c < 0) (h : a ≤ b) : Fl b c ≤ Fl a c := by
  rw [← Fl_neg b, ← Fl_neg a]; exact Fl_mono (by omega) (by omega)
theorem Cl_anti {a b c : Int} (hc : c < 0) (h : a ≤ b) : Cl b c ≤ Cl a c := by
  have := Fl_anti hc (show -b ≤ -a by omega)
  unfold Cl; omega
theorem fo_bd {C : Ch} {ud ut xd xt e : Int} (h : okCh C = true) (h1 : plC C 0 ud ut = 0) (h2 : plC C 2 xd xt = 0) (e1 : 0 ≤ e) (e2 : e ≤ 200) :
    (0 ≤ e * (C.lf + C.rt) ∧ e * (C.lf + C.rt) ≤ 8000000) ∧ (-4000000000 ≤ (C.lf + C.rt) * plL C 2 xd xt ∧ (C.lf + C.rt) * plL C 2 xd xt ≤ 4000000000) ∧ (-4000000000 ≤ (C.lf + C.rt) * plH C 2 xd xt ∧ (C.lf + C.rt) * plH C 2 xd xt ≤ 4000000000) ∧
    (-2000000000 ≤ C.rt * plL C 0 ud ut ∧ C.rt * plL C 0 ud ut ≤ 2000000000) ∧ (-2000000000 ≤ C.rt * plH C 0 ud ut ∧ C.rt * plH C 0 ud ut ≤ 2000000000) ∧
    (0 ≤ Cl (e * (C.lf + C.rt)) C.lf ∧ Cl (e * (C.lf + C.rt)) C.lf ≤ 8000000) ∧
    (-6000000000 ≤ Fl ((C.lf + C.rt) * plL C 2 xd xt - C.rt * plH C 0 ud ut) C.lf ∧ Fl ((C.lf + C.rt) * plL C 2 xd xt - C.rt * plH C 0 ud ut) C.lf ≤ 6000000000) ∧
    (-6000000000 ≤ Cl ((C.lf + C.rt) * plH C 2 xd xt - C.rt * plL C 0 ud ut) C.lf ∧ Cl ((C.lf + C.rt) * plH C 2 xd xt - C.rt * plL C 0 ud ut) C.lf ≤ 6000000000) ∧
    Fl ((C.lf + C.rt) * plL C 2 xd xt - C.rt * plH C 0 ud ut) C.lf ≤ Cl ((C.lf + C.rt) * plH C 2 xd xt - C.rt * plL C 0 ud ut) C.lf ∧ (-120000 ≤ C.rt * P1 C ∧ C.rt * P1 C ≤ 120000 ∧ C.rt * P1 C ≠ 0) := by
  obtain ⟨_, _, _, ⟨a1, a2⟩, ⟨a3, a4⟩, _, ⟨q1, q2, q3⟩⟩ := okCh_iff h
  obtain ⟨⟨b1, b2⟩, b3, b4⟩ := pl_bd h1
  obtain ⟨⟨c1, c2⟩, c3, c4⟩ := pl_bd h2
  have k1 := pl_le h h1
  have k2 := pl_le h h2
  have m1 := mul_bd e (C.lf + C.rt) 200 40000 (by omega) e2 (by omega) (by omega)
  have m0 := Int.mul_nonneg e1 (show 0 ≤ C.lf + C.rt by omega)
  have m2 := mul_bd (C.lf + C.rt) (plL C 2 xd xt) 40000 100000 (by omega) (by omega) c1 c2
  have m3 := mul_bd (C.lf + C.rt) (plH C 2 xd xt) 40000 100000 (by omega) (by omega) c3 c4
  have m4 := mul_bd C.rt (plL C 0 ud ut) 20000 100000 (by omega) a4 b1 b2
  have m5 := mul_bd C.rt (plH C 0 ud ut) 20000 100000 (by omega) a4 b3 b4
  have m6 := mul_bd C.rt (P1 C) 20000 6 (by omega) a4 q2 q3
  have m7 : C.rt * P1 C ≠ 0 := Int.mul_ne_zero (by omega) q1
  have o1 := Int.mul_le_mul_of_nonneg_left k2 (show 0 ≤ C.lf + C.rt by omega)
  have o2 := Int.mul_le_mul_of_nonneg_left k1 (show 0 ≤ C.rt by omega)
  have f1 := Cl_bd (e * (C.lf + C.rt)) C.lf 8000000 (by omega) (by omega)
  have f0 := Cl_mono (show 0 < C.lf by omega) m0
  have f00 : Cl 0 C.lf = 0 := by unfold Cl; rw [Fl_pos _ _ (by omega)]; simp
  have f2 := Fl_bd ((C.lf + C.rt) * plL C 2 xd xt - C.rt * plH C 0 ud ut) C.lf 6000000000 (by omega) (by omega)
  have f3 := Cl_bd ((C.lf + C.rt) * plH C 2 xd xt - C.rt * plL C 0 ud ut) C.lf 6000000000 (by omega) (by omega)
  have f4 := Int.le_trans (Fl_mono (show 0 < C.lf by omega) (show (C.lf + C.rt) * plL C 2 xd xt - C.rt * plH C 0 ud ut ≤ (C.lf + C.rt) * plH C 2 xd xt - C.rt * plL C 0 ud ut by omega)) (Fl_le_Cl (show 0 < C.lf by omega))
  exact ⟨⟨m0, by omega⟩, ⟨by omega, by omega⟩, ⟨by omega, by omega⟩, ⟨by omega, by omega⟩, ⟨by omega, by omega⟩, ⟨by omega, f1.2⟩, f2, f3, f4, ⟨by omega, by omega, m7⟩⟩
set_option maxRecDepth 50000 in
set_option maxHeartbeats 4000000 in
theorem FindOther_S (C : Ch) (A : Option Addr) (c : Nat) (ud ut xd xt e : Int) (hn : C.zs.length ≤ 1048576) (hm : C.nm.size ≤ 1048576) (w : World) (hA : Ints w A C.zs) :
    Calls Try.prog 49 #[.agg #[.int .i64 C.dg, .int .i64 C.tn, .string C.nm, .slice A C.zs.length c, .int .i64 C.wd, .int .i64 C.lf, .int .i64 C.rt], .agg #[.int .i64 ud, .int .i64 ut], .agg #[.int .i64 xd, .int .i64 xt], .int .i64 e] w fun r w' => r = .returned (.tuple #[.agg #[.int .i64 (foL C ud ut xd xt e), .int .i64 (foH C ud ut xd xt e)], .int .i64 (foC C ud ut xd xt e)]) ∧ Below w.heap.size w w' := by
  have HI := Lib.hid hA
  clear hA
  by_cases hk : clC C e (okF ud ut && okF xd xt) = 0
  rotate_left
  · have HQ := Lib.hid (fo_no hk)
    have b1 : (clC C e (okF ud ut && okF xd xt) != 0) = true := by simpa using hk
    clear hk
    go_enter Try.func49, Try.ntmps49
    go_wp2_with fail
    go_at_call 116; refine (l24Code_c _ _ _ _ _ _ _ _ hn hm _ (by repeat (with_reducible first | exact HI.out | assumption | refine Ints.drew ?_ | refine Ints.drewN _ ?_ | refine Ints.alloc _ ?_ | refine Ints.step (by assumption) ?_))).mono ?_; rintro e w1 ⟨rfl, hb1⟩; obtain ⟨hc1, hf1, hz1⟩ := bel hb1; (try simp only [World.size_drew, World.cell?_drew, World.frozen?_drew] at hc1 hf1 hz1); (try simp only [World.heap_drewN, World.cell?_drewN, World.frozen?_drewN] at hc1 hf1 hz1); (try have hl1 : w.heap.size < w1.heap.size := by (have hq := hb1.size; (try simp at hq); omega)); (try have hm1 : w.heap.size + 1 < w1.heap.size := by (have hq := hb1.size; (try simp at hq); omega)); (try have hn1 : w.heap.size + 1 + 1 < w1.heap.size := by (have hq := hb1.size; (try simp at hq); omega)); (try have hp1 : b < w1.heap.size := by (have hq := hb1.size; (try simp at hq); omega)); (try have ho1 : b' < w1.heap.size := by (have hq := hb1.size; (try simp at hq); omega))
    have l3 : w.heap.size + 1 + 1 + 1 < w1.heap.size := by have := hb1.size; simp at this; omega
    go_wp2
    refine bodyPost_ret (v := .tuple #[.agg #[.int .i64 0, .int .i64 0], .int .i64 (clC C e (okF ud ut && okF xd xt))]) (by simp [results, Try.results49, go_sem, *]) rfl ⟨by rw [HQ.out.1, HQ.out.2.1, HQ.out.2.2], by repeat (with_reducible first | exact Below.refl _ _ | assumption | refine Bel.alloc ?_ _ | refine Bel.step (by assumption) ?_ | refine Below.drew ?_ | refine Bel.drewN ?_ _ | refine Below.setCell ?_ (by first | exact Nat.le_refl _ | omega | (simp; done) | (simp; omega)) _)⟩
  obtain ⟨h, hu, hx, e1, e2⟩ : okCh C = true ∧ okF ud ut = true ∧ okF xd xt = true ∧ 0 ≤ e ∧ e ≤ 200 := by
    obtain ⟨h1, h2, h3⟩ := clC_0 hk
    simp only [Bool.and_eq_true] at h2
    have := inB_iff.1 h3
    exact ⟨h1, h2.1, h2.2, this.1, this.2⟩
  have HQ0 := Lib.hid (cq_pl (ck_ok (sc := 0) h hu rfl))
  have HQ2 := Lib.hid (cq_pl (ck_ok (sc := 2) h hx rfl))
  by_cases k0 : plC C 0 ud ut = 0
  rotate_left
  · have HQ := Lib.hid (fo_3 hk (.inl k0))
    have HK := Lib.hid hk
    have HK0 := Lib.hid (pl_3 k0)
    clear hk k0
    go_enter Try.func49, Try.ntmps49
    go_wp2_with fail
    go_at_call 116; refine (l24Code_c _ _ _ _ _ _ _ _ hn hm _ (by repeat (with_reducible first | exact HI.out | assumption | refine Ints.drew ?_ | refine Ints.drewN _ ?_ | refine Ints.alloc _ ?_ | refine Ints.step (by assumption) ?_))).mono ?_; rintro e w1 ⟨rfl, hb1⟩; obtain ⟨hc1, hf1, hz1⟩ := bel hb1; (try simp only [World.size_drew, World.cell?_drew, World.frozen?_drew] at hc1 hf1 hz1); (try simp only [World.heap_drewN, World.cell?_drewN, World.frozen?_drewN] at hc1 hf1 hz1); (try have hl1 : w.heap.size < w1.heap.size := by (have hq := hb1.size; (try simp at hq); omega)); (try have hm1 : w.heap.size + 1 < w1.heap.size := by (have hq := hb1.size; (try simp at hq); omega)); (try have hn1 : w.heap.size + 1 + 1 < w1.heap.size := by (have hq := hb1.size; (try simp at hq); omega)); (try have hp1 : b < w1.heap.size := by (have hq := hb1.size; (try simp at hq); omega)); (try have ho1 : b' < w1.heap.size := by (have hq := hb1.size; (try simp at hq); omega))
    rw [HK.out]
    go_wp2_with fail
    go_at_call 117; refine (ChartPlace_S _ _ _ _ _ _ hn hm _ (by repeat (with_reducible first | exact HI.out | assumption | refine Ints.drew ?_ | refine Ints.drewN _ ?_ | refine Ints.alloc _ ?_ | refine Ints.step (by assumption) ?_))).mono ?_; rintro e w2 ⟨rfl, hb2⟩; obtain ⟨hc2, hf2, hz2⟩ := bel hb2; (try simp only [World.size_drew, World.cell?_drew, World.frozen?_drew] at hc2 hf2 hz2); (try simp only [World.heap_drewN, World.cell?_drewN, World.frozen?_drewN] at hc2 hf2 hz2); (try have hl2 : w.heap.size < w2.heap.size := by (have hq := hb2.size; (try simp at hq); omega)); (try have hm2 : w.heap.size + 1 < w2.heap.size := by (have hq := hb2.size; (try simp at hq); omega)); (try have hn2 : w.heap.size + 1 + 1 < w2.heap.size := by (have hq := hb2.size; (try simp at hq); omega)); (try have hp2 : b < w2.heap.size := by (have hq := hb2.size; (try simp at hq); omega)); (try have ho2 : b' < w2.heap.size := by (have hq := hb2.size; (try simp at hq); omega))
    rw [HQ0.out.1, HQ0.out.2.1, HQ0.out.2.2, HK0.out.1]
    go_wp2_with fail
    go_at_call 117; refine (ChartPlace_S _ _ _ _ _ _ hn hm _ (by repeat (with_reducible first | exact HI.out | assumption | refine Ints.drew ?_ | refine Ints.drewN _ ?_ | refine Ints.alloc _ ?_ | refine Ints.step (by assumption) ?_))).mono ?_; rintro e w3 ⟨rfl, hb3⟩; obtain ⟨hc3, hf3, hz3⟩ := bel hb3; (try simp only [World.size_drew, World.cell?_drew, World.frozen?_drew] at hc3 hf3 hz3); (try simp only [World.heap_drewN, World.cell?_drewN, World.frozen?_drewN] at hc3 hf3 hz3); (try have hl3 : w.heap.size < w3.heap.size := by (have hq := hb3.size; (try simp at hq); omega)); (try have hm3 : w.heap.size + 1 < w3.heap.size := by (have hq := hb3.size; (try simp at hq); omega)); (try have hn3 : w.heap.size + 1 + 1 < w3.heap.size := by (have hq := hb3.size; (try simp at hq); omega)); (try have hp3 : b < w3.heap.size := by (have hq := hb3.size; (try simp at hq); omega)); (try have ho3 : b' < w3.heap.size := by (have hq := hb3.size; (try simp at hq); omega))
    have l3 : w.heap.size + 1 + 1 + 1 < w1.heap.size := by have := hb1.size; simp at this; omega
    have l4 : w.heap.size + 1 + 1 + 1 < w2.heap.size := by have := hb2.size; omega
    have r0 : w3.cell? ⟨w.heap.size + 1 + 1 + 1, 0, none⟩ = some (.int .i64 0) := by simp [go_sem, *]
    have r1 : w3.cell? ⟨w.heap.size + 1 + 1 + 1, 1, none⟩ = some (.int .i64 0) := by simp [go_sem, *]
    have g0 : w3.frozen? ⟨w.heap.size + 1 + 1 + 1, 0, none⟩ = false := by simp [go_sem, *]
    have g1 : w3.frozen? ⟨w.heap.size + 1 + 1 + 1, 1, none⟩ = false := by simp [go_sem, *]
    have l5 : w.heap.size + 1 + 1 + 1 < w3.heap.size := by have := hb3.size; simp at this; omega
    go_wp2
    refine bodyPost_ret (v := .tuple #[.agg #[.int .i64 0, .int .i64 0], .int .i64 3]) (by simp [results, Try.results49, go_sem, *]) rfl ⟨by rw [HQ.out.1, HQ.out.2.1, HQ.out.2.2], by repeat (with_reducible first | exact Below.refl _ _ | assumption | refine Bel.alloc ?_ _ | refine Bel.step (by assumption) ?_ | refine Below.drew ?_ | refine Bel.drewN ?_ _ | refine Below.setCell ?_ (by first | exact Nat.le_refl _ | omega | (simp; done) | (simp; omega)) _)⟩
  by_cases k2 : plC C 2 xd xt = 0
  rotate_left
  · have HQ := Lib.hid (fo_3 hk (.inr k2))
    have HK := Lib.hid hk
    have HK0 := Lib.hid k0
    have HK2 := Lib.hid (pl_3 k2)
    clear hk k0 k2
    go_enter Try.func49, Try.ntmps49
    go_wp2_with fail
    go_at_call 116; refine (l24Code_c _ _ _ _ _ _ _ _ hn hm _ (by repeat (with_reducible first | exact HI.out | assumption | refine Ints.drew ?_ | refine Ints.drewN _ ?_ | refine Ints.alloc _ ?_ | refine Ints.step (by assumption) ?_))).mono ?_; rintro e w1 ⟨rfl, hb1⟩; obtain ⟨hc1, hf1, hz1⟩ := bel hb1; (try simp only [World.size_drew, World.cell?_drew, World.frozen?_drew] at hc1 hf1 hz1); (try simp only [World.heap_drewN, World.cell?_drewN, World.frozen?_drewN] at hc1 hf1 hz1); (try have hl1 : w.heap.size < w1.heap.size := by (have hq := hb1.size; (try simp at hq); omega)); (try have hm1 : w.heap.size + 1 < w1.heap.size := by (have hq := hb1.size; (try simp at hq); omega)); (try have hn1 : w.heap.size + 1 + 1 < w1.heap.size := by (have hq := hb1.size; (try simp at hq); omega)); (try have hp1 : b < w1.heap.size := by (have hq := hb1.size; (try simp at hq); omega)); (try have ho1 : b' < w1.heap.size := by (have hq := hb1.size; (try simp at hq); omega))
    rw [HK.out]
    go_wp2_with fail
    go_at_call 117; refine (ChartPlace_S _ _ _ _ _ _ hn hm _ (by repeat (with_reducible first | exact HI.out | assumption | refine Ints.drew ?_ | refine Ints.drewN _ ?_ | refine Ints.alloc _ ?_ | refine Ints.step (by assumption) ?_))).mono ?_; rintro e w2 ⟨rfl, hb2⟩; obtain ⟨hc2, hf2, hz2⟩ := bel hb2; (try simp only [World.size_drew, World.cell?_drew, World.frozen?_drew] at hc2 hf2 hz2); (try simp only [World.heap_drewN, World.cell?_drewN, World.frozen?_drewN] at hc2 hf2 hz2); (try have hl2 : w.heap.size < w2.heap.size := by (have hq := hb2.size; (try simp at hq); omega)); (try have hm2 : w.heap.size + 1 < w2.heap.size := by (have hq := hb2.size; (try simp at hq); omega)); (try have hn2 : w.heap.size + 1 + 1 < w2.heap.size := by (have hq := hb2.size; (try simp at hq); omega)); (try have hp2 : b < w2.heap.size := by (have hq := hb2.size; (try simp at hq); omega)); (try have ho2 : b' < w2.heap.size := by (have hq := hb2.size; (try simp at hq); omega))
    rw [HQ0.out.1, HQ0.out.2.1, HQ0.out.2.2, HK0.out]
    go_wp2_with fail
    go_at_call 117; refine (ChartPlace_S _ _ _ _ _ _ hn hm _ (by repeat (with_reducible first | exact HI.out | assumption | refine Ints.drew ?_ | refine Ints.drewN _ ?_ | refine Ints.alloc _ ?_ | refine Ints.step (by assumption) ?_))).mono ?_; rintro e w3 ⟨rfl, hb3⟩; obtain ⟨hc3, hf3, hz3⟩ := bel hb3; (try simp only [World.size_drew, World.cell?_drew, World.frozen?_drew] at hc3 hf3 hz3); (try simp only [World.heap_drewN, World.cell?_drewN, World.frozen?_drewN] at hc3 hf3 hz3); (try have hl3 : w.heap.size < w3.heap.size := by (have hq := hb3.size; (try simp at hq); omega)); (try have hm3 : w.heap.size + 1 < w3.heap.size := by (have hq := hb3.size; (try simp at hq); omega)); (try have hn3 : w.heap.size + 1 + 1 < w3.heap.size := by (have hq := hb3.size; (try simp at hq); omega)); (try have hp3 : b < w3.heap.size := by (have hq := hb3.size; (try simp at hq); omega)); (try have ho3 : b' < w3.heap.size := by (have hq := hb3.size; (try simp at hq); omega))
    rw [HQ2.out.1, HQ2.out.2.1, HQ2.out.2.2, HK2.out.1]
    have l3 : w.heap.size + 1 + 1 + 1 < w1.heap.size := by have := hb1.size; simp at this; omega
    have l4 : w.heap.size + 1 + 1 + 1 < w2.heap.size := by have := hb2.size; omega
    have r0 : w3.cell? ⟨w.heap.size + 1 + 1 + 1, 0, none⟩ = some (.int .i64 0) := by simp [go_sem, *]
    have r1 : w3.cell? ⟨w.heap.size + 1 + 1 + 1, 1, none⟩ = some (.int .i64 0) := by simp [go_sem, *]
    have g0 : w3.frozen? ⟨w.heap.size + 1 + 1 + 1, 0, none⟩ = false := by simp [go_sem, *]
    have g1 : w3.frozen? ⟨w.heap.size + 1 + 1 + 1, 1, none⟩ = false := by simp [go_sem, *]
    have l5 : w.heap.size + 1 + 1 + 1 < w3.heap.size := by have := hb3.size; simp at this; omega
    go_wp2
    refine bodyPost_ret (v := .tuple #[.agg #[.int .i64 0, .int .i64 0], .int .i64 3]) (by simp [results, Try.results49, go_sem, *]) rfl ⟨by rw [HQ.out.1, HQ.out.2.1, HQ.out.2.2], by repeat (with_reducible first | exact Below.refl _ _ | assumption | refine Bel.alloc ?_ _ | refine Bel.step (by assumption) ?_ | refine Below.drew ?_ | refine Bel.drewN ?_ _ | refine Below.setCell ?_ (by first | exact Nat.le_refl _ | omega | (simp; done) | (simp; omega)) _)⟩
  have HQ := Lib.hid (fo_0 hk k0 k2)
  have HD := Lib.hid (show foX C ud ut xd xt e = mn (Fl ((Fl ((C.lf + C.rt) * plL C 2 xd xt - C.rt * plH C 0 ud ut) C.lf - Cl (e * (C.lf + C.rt)) C.lf) * 1048576) (C.rt * P1 C)) (Fl ((Cl ((C.lf + C.rt) * plH C 2 xd xt - C.rt * plL C 0 ud ut) C.lf + Cl (e * (C.lf + C.rt)) C.lf) * 1048576) (C.rt * P1 C)) ∧ foY C ud ut xd xt e = mx (Cl ((Fl ((C.lf + C.rt) * plL C 2 xd xt - C.rt * plH C 0 ud ut) C.lf - Cl (e * (C.lf + C.rt)) C.lf) * 1048576) (C.rt * P1 C)) (Cl ((Cl ((C.lf + C.rt) * plH C 2 xd xt - C.rt * plL C 0 ud ut) C.lf + Cl (e * (C.lf + C.rt)) C.lf) * 1048576) (C.rt * P1 C)) from ⟨rfl, rfl⟩)
  obtain ⟨⟨m1, m2⟩, ⟨m3, m4⟩, ⟨m5, m6⟩, ⟨m7, m8⟩, ⟨m9, n0⟩, ⟨n1, n2⟩, ⟨n3, n4⟩, ⟨n5, n6⟩, n7, n8, n9, o1⟩ := fo_bd h k0 k2 e1 e2
  obtain ⟨_, ⟨z1, z2⟩, _, ⟨a1, a2⟩, ⟨a3, a4⟩, _, _⟩ := okCh_iff h
  have HK := Lib.hid hk
  have HK0 := Lib.hid k0
  have HK2 := Lib.hid k2
  clear hk k0 k2
  have w1' : IntKind.i64.wrap (e * (C.lf + C.rt)) = e * (C.lf + C.rt) := wr64 (by omega) (by omega)
  have w2' : IntKind.i64.wrap ((C.lf + C.rt) * plL C 2 xd xt) = (C.lf + C.rt) * plL C 2 xd xt := wr64 (by omega) (by omega)
  have w3' : IntKind.i64.wrap ((C.lf + C.rt) * plH C 2 xd xt) = (C.lf + C.rt) * plH C 2 xd xt := wr64 (by omega) (by omega)
  have w4' : IntKind.i64.wrap (C.rt * plL C 0 ud ut) = C.rt * plL C 0 ud ut := wr64 (by omega) (by omega)
  have w5' : IntKind.i64.wrap (C.rt * plH C 0 ud ut) = C.rt * plH C 0 ud ut := wr64 (by omega) (by omega)
  have w6' : IntKind.i64.wrap (C.rt * P1 C) = C.rt * P1 C := wr64 (by omega) (by omega)
  go_enter Try.func49, Try.ntmps49
  go_wp2_with fail
  go_at_call 116; refine (l24Code_c _ _ _ _ _ _ _ _ hn hm _ (by repeat (with_reducible first | exact HI.out | assumption | refine Ints.drew ?_ | refine Ints.drewN _ ?_ | refine Ints.alloc _ ?_ | refine Ints.step (by assumption) ?_))).mono ?_; rintro e w1 ⟨rfl, hb1⟩; obtain ⟨hc1, hf1, hz1⟩ := bel hb1; (try simp only [World.size_drew, World.cell?_drew, World.frozen?_drew] at hc1 hf1 hz1); (try simp only [World.heap_drewN, World.cell?_drewN, World.frozen?_drewN] at hc1 hf1 hz1); (try have hl1 : w.heap.size < w1.heap.size := by (have hq := hb1.size; (try simp at hq); omega)); (try have hm1 : w.heap.size + 1 < w1.heap.size := by (have hq := hb1.size; (try simp at hq); omega)); (try have hn1 : w.heap.size + 1 + 1 < w1.heap.size := by (have hq := hb1.size; (try simp at hq); omega)); (try have hp1 : b < w1.heap.size := by (have hq := hb1.size; (try simp at hq); omega)); (try have ho1 : b' < w1.heap.size := by (have hq := hb1.size; (try simp at hq); omega))
  rw [HK.out]
  go_wp2_with fail
  go_at_call 117; refine (ChartPlace_S _ _ _ _ _ _ hn hm _ (by repeat (with_reducible first | exact HI.out | assumption | refine Ints.drew ?_ | refine Ints.drewN _ ?_ | refine Ints.alloc _ ?_ | refine Ints.step (by assumption) ?_))).mono ?_; rintro e w2 ⟨rfl, hb2⟩; obtain ⟨hc2, hf2, hz2⟩ := bel hb2; (try simp only [World.size_drew, World.cell?_drew, World.frozen?_drew] at hc2 hf2 hz2); (try simp only [World.heap_drewN, World.cell?_drewN, World.frozen?_drewN] at hc2 hf2 hz2); (try have hl2 : w.heap.size < w2.heap.size := by (have hq := hb2.size; (try simp at hq); omega)); (try have hm2 : w.heap.size + 1 < w2.heap.size := by (have hq := hb2.size; (try simp at hq); omega)); (try have hn2 : w.heap.size + 1 + 1 < w2.heap.size := by (have hq := hb2.size; (try simp at hq); omega)); (try have hp2 : b < w2.heap.size := by (have hq := hb2.size; (try simp at hq); omega)); (try have ho2 : b' < w2.heap.size := by (have hq := hb2.size; (try simp at hq); omega))
  rw [HQ0.out.1, HQ0.out.2.1, HQ0.out.2.2, HK0.out]
  go_wp2_with fail
  go_at_call 117; refine (ChartPlace_S _ _ _ _ _ _ hn hm _ (by repeat (with_reducible first | exact HI.out | assumption | refine Ints.drew ?_ | refine Ints.drewN _ ?_ | refine Ints.alloc _ ?_ | refine Ints.step (by assumption) ?_))).mono ?_; rintro e w3 ⟨rfl, hb3⟩; obtain ⟨hc3, hf3, hz3⟩ := bel hb3; (try simp only [World.size_drew, World.cell?_drew, World.frozen?_drew] at hc3 hf3 hz3); (try simp only [World.heap_drewN, World.cell?_drewN, World.frozen?_drewN] at hc3 hf3 hz3); (try have hl3 : w.heap.size < w3.heap.size := by (have hq := hb3.size; (try simp at hq); omega)); (try have hm3 : w.heap.size + 1 < w3.heap.size := by (have hq := hb3.size; (try simp at hq); omega)); (try have hn3 : w.heap.size + 1 + 1 < w3.heap.size := by (have hq := hb3.size; (try simp at hq); omega)); (try have hp3 : b < w3.heap.size := by (have hq := hb3.size; (try simp at hq); omega)); (try have ho3 : b' < w3.heap.size := by (have hq := hb3.size; (try simp at hq); omega))
  rw [HQ2.out.1, HQ2.out.2.1, HQ2.out.2.2, HK2.out]
  have l3 : w.heap.size + 1 + 1 + 1 < w1.heap.size := by have := hb1.size; simp at this; omega
  have l4 : w.heap.size + 1 + 1 + 1 < w2.heap.size := by have := hb2.size; omega
  have l6 : w2.heap.size < w3.heap.size := by have := hb3.size; simp at this; omega
  have r0 : w3.cell? ⟨w.heap.size + 1 + 1 + 1, 0, none⟩ = some (.int .i64 0) := by simp [go_sem, *]
  have r1 : w3.cell? ⟨w.heap.size + 1 + 1 + 1, 1, none⟩ = some (.int .i64 0) := by simp [go_sem, *]
  have g0 : w3.frozen? ⟨w.heap.size + 1 + 1 + 1, 0, none⟩ = false := by simp [go_sem, *]
  have g1 : w3.frozen? ⟨w.heap.size + 1 + 1 + 1, 1, none⟩ = false := by simp [go_sem, *]
  have l5 : w.heap.size + 1 + 1 + 1 < w3.heap.size := by omega
  have q3 : w3.cell? ⟨w.heap.size, 3, none⟩ = some (.slice A C.zs.length c) := by simp [go_sem, *]
  have q5 : w3.cell? ⟨w.heap.size, 5, none⟩ = some (.int .i64 C.lf) := by simp [go_sem, *]
  have q6 : w3.cell? ⟨w.heap.size, 6, none⟩ = some (.int .i64 C.rt) := by simp [go_sem, *]
  have y0 : w3.cell? ⟨w2.heap.size, 0, none⟩ = some (.int .i64 (plL C 0 ud ut)) := by simp [go_sem, *]
  have y1 : w3.cell? ⟨w2.heap.size, 1, none⟩ = some (.int .i64 (plH C 0 ud ut)) := by simp [go_sem, *]
  have hbel3 : Below w.heap.size w w3 := by repeat (with_reducible first | exact Below.refl _ _ | assumption | refine Bel.alloc ?_ _ | refine Bel.step (by assumption) ?_ | refine Below.drew ?_ | refine Bel.drewN ?_ _ | refine Below.setCell ?_ (by first | exact Nat.le_refl _ | omega | (simp; done) | (simp; omega)) _)
  obtain ⟨b, o, rfl, hbb, i0, i1⟩ := (Ints.step hbel3 HI.out).pows z1
  have l7 : w.heap.size < w3.heap.size := by omega
  have nn1 : w.heap.size + 1 + 1 + 1 ≠ w2.heap.size := by omega
  have nn2 : w2.heap.size ≠ w.heap.size + 1 + 1 + 1 := by omega
  have nn3 : w.heap.size + 1 + 1 + 1 ≠ w3.heap.size := by omega
  have nn4 : w3.heap.size ≠ w.heap.size + 1 + 1 + 1 := by omega
  clear hb1 hc1 hf1 hz1 hb2 hc2 hf2 hz2 hb3 hc3 hf3 hz3
  generalize w2.heap.size = Y at *
  go_wp2_with fail
  go_at_call 118; refine (l01Ceil_c _ _ (by omega) (by omega) (by omega) (by omega) (by omega) _).mono ?_; rintro e w' ⟨rfl, rfl⟩
  generalize Cl (e * (C.lf + C.rt)) C.lf = E at *
  go_wp2_with fail
  go_at_call 119; refine (l01Floor_c _ _ (by omega) (by omega) (by omega) (by omega) (by omega) _).mono ?_; rintro e w' ⟨rfl, rfl⟩
  generalize Fl ((C.lf + C.rt) * plL C 2 xd xt - C.rt * plH C 0 ud ut) C.lf = lo at *
  go_wp2_with fail
  go_at_call 118; refine (l01Ceil_c _ _ (by omega) (by omega) (by omega) (by omega) (by omega) _).mono ?_; rintro e w' ⟨rfl, rfl⟩
  generalize Cl ((C.lf + C.rt) * plH C 2 xd xt - C.rt * plL C 0 ud ut) C.lf = hi at *
  have w7' : IntKind.i64.wrap (lo - E) = lo - E := wr64 (by omega) (by omega)
  have w8' : IntKind.i64.wrap (hi + E) = hi + E := wr64 (by omega) (by omega)
  go_wp2
  go_quiet (fail)
  generalize C.rt * P1 C = M at *
  obtain ⟨p, hp⟩ : ∃ p, Hid (p = Fl ((lo - E) * 1048576) M) := ⟨_, Lib.hid rfl⟩
  obtain ⟨q, hq⟩ : ∃ q, Hid (q = Fl ((hi + E) * 1048576) M) := ⟨_, Lib.hid rfl⟩
  obtain ⟨r, hr⟩ : ∃ r, Hid (r = Cl ((lo - E) * 1048576) M) := ⟨_, Lib.hid rfl⟩
  obtain ⟨s, hs⟩ : ∃ s, Hid (s = Cl ((hi + E) * 1048576) M) := ⟨_, Lib.hid rfl⟩
  have w9' : IntKind.i64.wrap ((lo - E) * 1048576) = (lo - E) * 1048576 := wr64 (by omega) (by omega)
  have w0' : IntKind.i64.wrap ((hi + E) * 1048576) = (hi + E) * 1048576 := wr64 (by omega) (by omega)
  obtain ⟨t1, t2⟩ := Fl_bd ((lo - E) * 1048576) M 9000000000000000 (by omega) (by omega)
  obtain ⟨t3, t4⟩ := Fl_bd ((hi + E) * 1048576) M 9000000000000000 (by omega) (by omega)
  obtain ⟨t5, t6⟩ := Cl_bd ((lo - E) * 1048576) M 9000000000000000 (by omega) (by omega)
  obtain ⟨t7, t8⟩ := Cl_bd ((hi + E) * 1048576) M 9000000000000000 (by omega) (by omega)
  rw [← hp.out] at t1 t2
  rw [← hq.out] at t3 t4
  rw [← hr.out] at t5 t6
  rw [← hs.out] at t7 t8
  have HDD := Lib.hid (show foX C ud ut xd xt e = mn p q ∧ foY C ud ut xd xt e = mx r s by rw [hp.out, hq.out, hr.out, hs.out]; exact HD.out)
  go_wp2_with fail
  go_at_call 119; refine (l01Floor_c _ _ (by omega) (by omega) (by omega) (by omega) (by omega) _).mono ?_; rintro e w' ⟨rfl, rfl⟩
  rw [← hp.out]
  go_wp2_with fail
  go_at_call 119; refine (l01Floor_c _ _ (by omega) (by omega) (by omega) (by omega) (by omega) _).mono ?_; rintro e w' ⟨rfl, rfl⟩
  rw [← hq.out]
  rcases Int.lt_trichotomy p q with c1 | c1 | c1
  · have HM := Lib.hid (mn_le (Int.le_of_lt c1))
    go_wp2_with fail
    go_at_call 118; refine (l01Ceil_c _ _ (by omega) (by omega) (by omega) (by omega) (by omega) _).mono ?_; rintro e w' ⟨rfl, rfl⟩
    rw [← hr.out]
    go_wp2_with fail
    go_at_call 118; refine (l01Ceil_c _ _ (by omega) (by omega) (by omega) (by omega) (by omega) _).mono ?_; rintro e w' ⟨rfl, rfl⟩
    rw [← hs.out]
    rcases Int.lt_trichotomy r s with c2 | c2 | c2
    · have HN := Lib.hid (mx_le (Int.le_of_lt c2))
      go_wp2
      refine bodyPost_ret (v := .tuple #[.agg #[.int .i64 p, .int .i64 s], .int .i64 0]) (by simp [results, Try.results49, go_sem, *]) rfl ⟨by rw [HQ.out.1, HQ.out.2.1, HQ.out.2.2, HDD.out.1, HDD.out.2, HM.out, HN.out], by repeat (with_reducible first | exact Below.refl _ _ | assumption | refine Bel.alloc ?_ _ | refine Bel.step (by assumption) ?_ | refine Below.drew ?_ | refine Bel.drewN ?_ _ | refine Below.setCell ?_ (by first | exact Nat.le_refl _ | omega | (simp; done) | (simp; omega)) _)⟩
    · subst c2
      have HN := Lib.hid ((by simp [mx] : mx r r = r))
      go_wp2
      refine bodyPost_ret (v := .tuple #[.agg #[.int .i64 p, .int .i64 r], .int .i64 0]) (by simp [results, Try.results49, go_sem, *]) rfl ⟨by rw [HQ.out.1, HQ.out.2.1, HQ.out.2.2, HDD.out.1, HDD.out.2, HM.out, HN.out], by repeat (with_reducible first | exact Below.refl _ _ | assumption | refine Bel.alloc ?_ _ | refine Bel.step (by assumption) ?_ | refine Below.drew ?_ | refine Bel.drewN ?_ _ | refine Below.setCell ?_ (by first | exact Nat.le_refl _ | omega | (simp; done) | (simp; omega)) _)⟩
    · have HN := Lib.hid (mx_ge (Int.le_of_lt c2))
      go_wp2
      refine bodyPost_ret (v := .tuple #[.agg #[.int .i64 p, .int .i64 r], .int .i64 0]) (by simp [results, Try.results49, go_sem, *]) rfl ⟨by rw [HQ.out.1, HQ.out.2.1, HQ.out.2.2, HDD.out.1, HDD.out.2, HM.out, HN.out], by repeat (with_reducible first | exact Below.refl _ _ | assumption | refine Bel.alloc ?_ _ | refine Bel.step (by assumption) ?_ | refine Below.drew ?_ | refine Bel.drewN ?_ _ | refine Below.setCell ?_ (by first | exact Nat.le_refl _ | omega | (simp; done) | (simp; omega)) _)⟩
  · subst c1
    have HM := Lib.hid ((by simp [mn] : mn p p = p))
    go_wp2_with fail
    go_at_call 118; refine (l01Ceil_c _ _ (by omega) (by omega) (by omega) (by omega) (by omega) _).mono ?_; rintro e w' ⟨rfl, rfl⟩
    rw [← hr.out]
    go_wp2_with fail
    go_at_call 118; refine (l01Ceil_c _ _ (by omega) (by omega) (by omega) (by omega) (by omega) _).mono ?_; rintro e w' ⟨rfl, rfl⟩
    rw [← hs.out]
    rcases Int.lt_trichotomy r s with c2 | c2 | c2
    · have HN := Lib.hid (mx_le (Int.le_of_lt c2))
      go_wp2
      refine bodyPost_ret (v := .tuple #[.agg #[.int .i64 p, .int .i64 s], .int .i64 0]) (by simp [results, Try.results49, go_sem, *]) rfl ⟨by rw [HQ.out.1, HQ.out.2.1, HQ.out.2.2, HDD.out.1, HDD.out.2, HM.out, HN.out], by repeat (with_reducible first | exact Below.refl _ _ | assumption | refine Bel.alloc ?_ _ | refine Bel.step (by assumption) ?_ | refine Below.drew ?_ | refine Bel.drewN ?_ _ | refine Below.setCell ?_ (by first | exact Nat.le_refl _ | omega | (simp; done) | (simp; omega)) _)⟩
    · subst c2
      have HN := Lib.hid ((by simp [mx] : mx r r = r))
      go_wp2
      refine bodyPost_ret (v := .tuple #[.agg #[.int .i64 p, .int .i64 r], .int .i64 0]) (by simp [results, Try.results49, go_sem, *]) rfl ⟨by rw [HQ.out.1, HQ.out.2.1, HQ.out.2.2, HDD.out.1, HDD.out.2, HM.out, HN.out], by repeat (with_reducible first | exact Below.refl _ _ | assumption | refine Bel.alloc ?_ _ | refine Bel.step (by assumption) ?_ | refine Below.drew ?_ | refine Bel.drewN ?_ _ | refine Below.setCell ?_ (by first | exact Nat.le_refl _ | omega | (simp; done) | (simp; omega)) _)⟩
    · have HN := Lib.hid (mx_ge (Int.le_of_lt c2))
      go_wp2
      refine bodyPost_ret (v := .tuple #[.agg #[.int .i64 p, .int .i64 r], .int .i64 0]) (by simp [results, Try.results49, go_sem, *]) rfl ⟨by rw [HQ.out.1, HQ.out.2.1, HQ.out.2.2, HDD.out.1, HDD.out.2, HM.out, HN.out], by repeat (with_reducible first | exact Below.refl _ _ | assumption | refine Bel.alloc ?_ _ | refine Bel.step (by assumption) ?_ | refine Below.drew ?_ | refine Bel.drewN ?_ _ | refine Below.setCell ?_ (by first | exact Nat.le_refl _ | omega | (simp; done) | (simp; omega)) _)⟩
  · have HM := Lib.hid (mn_ge (Int.le_of_lt c1))
    go_wp2_with fail
    go_at_call 118; refine (l01Ceil_c _ _ (by omega) (by omega) (by omega) (by omega) (by omega) _).mono ?_; rintro e w' ⟨rfl, rfl⟩
    rw [← hr.out]
    go_wp2_with fail
    go_at_call 118; refine (l01Ceil_c _ _ (by omega) (by omega) (by omega) (by omega) (by omega) _).mono ?_; rintro e w' ⟨rfl, rfl⟩
    rw [← hs.out]
    rcases Int.lt_trichotomy r s with c2 | c2 | c2
    · have HN := Lib.hid (mx_le (Int.le_of_lt c2))
      go_wp2
      refine bodyPost_ret (v := .tuple #[.agg #[.int .i64 q, .int .i64 s], .int .i64 0]) (by simp [results, Try.results49, go_sem, *]) rfl ⟨by rw [HQ.out.1, HQ.out.2.1, HQ.out.2.2, HDD.out.1, HDD.out.2, HM.out, HN.out], by repeat (with_reducible first | exact Below.refl _ _ | assumption | refine Bel.alloc ?_ _ | refine Bel.step (by assumption) ?_ | refine Below.drew ?_ | refine Bel.drewN ?_ _ | refine Below.setCell ?_ (by first | exact Nat.le_refl _ | omega | (simp; done) | (simp; omega)) _)⟩
    · subst c2
      have HN := Lib.hid ((by simp [mx] : mx r r = r))
      go_wp2
      refine bodyPost_ret (v := .tuple #[.agg #[.int .i64 q, .int .i64 r], .int .i64 0]) (by simp [results, Try.results49, go_sem, *]) rfl ⟨by rw [HQ.out.1, HQ.out.2.1, HQ.out.2.2, HDD.out.1, HDD.out.2, HM.out, HN.out], by repeat (with_reducible first | exact Below.refl _ _ | assumption | refine Bel.alloc ?_ _ | refine Bel.step (by assumption) ?_ | refine Below.drew ?_ | refine Bel.drewN ?_ _ | refine Below.setCell ?_ (by first | exact Nat.le_refl _ | omega | (simp; done) | (simp; omega)) _)⟩
    · have HN := Lib.hid (mx_ge (Int.le_of_lt c2))
      go_wp2
      refine bodyPost_ret (v := .tuple #[.agg #[.int .i64 q, .int .i64 r], .int .i64 0]) (by simp [results, Try.results49, go_sem, *]) rfl ⟨by rw [HQ.out.1, HQ.out.2.1, HQ.out.2.2, HDD.out.1, HDD.out.2, HM.out, HN.out], by repeat (with_reducible first | exact Below.refl _ _ | assumption | refine Bel.alloc ?_ _ | refine Bel.step (by assumption) ?_ | refine Below.drew ?_ | refine Bel.drewN ?_ _ | refine Below.setCell ?_ (by first | exact Nat.le_refl _ | omega | (simp; done) | (simp; omega)) _)⟩
set_option maxRecDepth 50000 in
set_option maxHeartbeats 4000000 in
theorem FindOther_I (C : Ch) (A : Option Addr) (c : Nat) (ud ut xd xt e : Int) (hn : C.zs.length ≤ 1048576) (hm : C.nm.size ≤ 1048576) (w : World) (hA : Ints w A C.zs) :
    Calls Try.prog 48 #[.agg #[.int .i64 C.dg, .int .i64 C.tn, .string C.nm, .slice A C.zs.length c, .int .i64 C.wd, .int .i64 C.lf, .int .i64 C.rt], .agg #[.int .i64 ud, .int .i64 ut], .agg #[.int .i64 xd, .int .i64 xt], .int .i64 e] w fun r w' => r = .returned (.tuple #[.agg #[.int .i64 (foL C ud ut xd xt e), .int .i64 (foH C ud ut xd xt e)], .int .i64 (foC C ud ut xd xt e)]) ∧ Below w.heap.size w w' := by
  have hP := Prs.mk2 ((((w.alloc (.cells #[.int .i64 C.dg, .int .i64 C.tn, .string C.nm, .slice A C.zs.length c, .int .i64 C.wd, .int .i64 C.lf, .int .i64 C.rt] 75)).alloc (.cells #[.int .i64 ud, .int .i64 ut] 71)).alloc (.cells #[.int .i64 xd, .int .i64 xt] 71)).alloc (.cells #[.int .i64 0, .int .i64 0] 79)) 71 ud ut xd xt
  simp only [World.size_alloc] at hP
  have HI := Lib.hid hA
  clear hA
  by_cases hk : clC C e (okF ud ut && okF xd xt) = 0
  rotate_left
  · have HQ := Lib.hid (fo_no hk)
    have b1 : (clC C e (okF ud ut && okF xd xt) != 0) = true := by simpa using hk
    clear hk
    go_enter Try.func48, Try.ntmps48
    go_wp2_with fail
    go_at_call 112; refine (checkLine_c C A c e _ 2 [(ud, ut), (xd, xt)] hn hm (by simp) _ (by repeat (with_reducible first | exact HI.out | assumption | refine Ints.drew ?_ | refine Ints.drewN _ ?_ | refine Ints.alloc _ ?_ | refine Ints.step (by assumption) ?_)) hP).mono ?_; rintro e w1 ⟨rfl, hb1⟩; obtain ⟨hc1, hf1, hz1⟩ := bel hb1; (try simp only [World.size_drew, World.cell?_drew, World.frozen?_drew] at hc1 hf1 hz1); (try simp only [World.heap_drewN, World.cell?_drewN, World.frozen?_drewN] at hc1 hf1 hz1); (try have hl1 : w.heap.size < w1.heap.size := by (have hq := hb1.size; (try simp at hq); omega)); (try have hm1 : w.heap.size + 1 < w1.heap.size := by (have hq := hb1.size; (try simp at hq); omega)); (try have hn1 : w.heap.size + 1 + 1 < w1.heap.size := by (have hq := hb1.size; (try simp at hq); omega)); (try have hp1 : b < w1.heap.size := by (have hq := hb1.size; (try simp at hq); omega)); (try have ho1 : b' < w1.heap.size := by (have hq := hb1.size; (try simp at hq); omega))
    rw [okFs_two]
    have l3 : w.heap.size + 1 + 1 + 1 < w1.heap.size := by have := hb1.size; simp at this; omega
    go_wp2
    refine bodyPost_ret (v := .tuple #[.agg #[.int .i64 0, .int .i64 0], .int .i64 (clC C e (okF ud ut && okF xd xt))]) (by simp [results, Try.results48, go_sem, *]) rfl ⟨by rw [HQ.out.1, HQ.out.2.1, HQ.out.2.2], by repeat (with_reducible first | exact Below.refl _ _ | assumption | refine Bel.alloc ?_ _ | refine Bel.step (by assumption) ?_ | refine Below.drew ?_ | refine Bel.drewN ?_ _ | refine Below.setCell ?_ (by first | exact Nat.le_refl _ | omega | (simp; done) | (simp; omega)) _)⟩
  obtain ⟨h, hu, hx, e1, e2⟩ : okCh C = true ∧ okF ud ut = true ∧ okF xd xt = true ∧ 0 ≤ e ∧ e ≤ 200 := by
    obtain ⟨h1, h2, h3⟩ := clC_0 hk
    simp only [Bool.and_eq_true] at h2
    have := inB_iff.1 h3
    exact ⟨h1, h2.1, h2.2, this.1, this.2⟩
  have HQ0 := Lib.hid (cq_pl (ck_ok (sc := 0) h hu rfl))
  have HQ2 := Lib.hid (cq_pl (ck_ok (sc := 2) h hx rfl))
  by_cases k0 : plC C 0 ud ut = 0
  rotate_left
  · have HQ := Lib.hid (fo_3 hk (.inl k0))
    have HK := Lib.hid hk
    have HK0 := Lib.hid (pl_3 k0)
    clear hk k0
    go_enter Try.func48, Try.ntmps48
    go_wp2_with fail
    go_at_call 112; refine (checkLine_c C A c e _ 2 [(ud, ut), (xd, xt)] hn hm (by simp) _ (by repeat (with_reducible first | exact HI.out | assumption | refine Ints.drew ?_ | refine Ints.drewN _ ?_ | refine Ints.alloc _ ?_ | refine Ints.step (by assumption) ?_)) hP).mono ?_; rintro e w1 ⟨rfl, hb1⟩; obtain ⟨hc1, hf1, hz1⟩ := bel hb1; (try simp only [World.size_drew, World.cell?_drew, World.frozen?_drew] at hc1 hf1 hz1); (try simp only [World.heap_drewN, World.cell?_drewN, World.frozen?_drewN] at hc1 hf1 hz1); (try have hl1 : w.heap.size < w1.heap.size := by (have hq := hb1.size; (try simp at hq); omega)); (try have hm1 : w.heap.size + 1 < w1.heap.size := by (have hq := hb1.size; (try simp at hq); omega)); (try have hn1 : w.heap.size + 1 + 1 < w1.heap.size := by (have hq := hb1.size; (try simp at hq); omega)); (try have hp1 : b < w1.heap.size := by (have hq := hb1.size; (try simp at hq); omega)); (try have ho1 : b' < w1.heap.size := by (have hq := hb1.size; (try simp at hq); omega))
    rw [okFs_two, HK.out]
    go_wp2_with fail
    go_at_call 113; refine (chartPlace_c _ _ _ 0 ud ut h hu rfl _ (by repeat (with_reducible first | exact HI.out | assumption | refine Ints.drew ?_ | refine Ints.drewN _ ?_ | refine Ints.alloc _ ?_ | refine Ints.step (by assumption) ?_))).mono ?_; rintro e w2 ⟨rfl, hb2⟩; obtain ⟨hc2, hf2, hz2⟩ := bel hb2; (try simp only [World.size_drew, World.cell?_drew, World.frozen?_drew] at hc2 hf2 hz2); (try simp only [World.heap_drewN, World.cell?_drewN, World.frozen?_drewN] at hc2 hf2 hz2); (try have hl2 : w.heap.size < w2.heap.size := by (have hq := hb2.size; (try simp at hq); omega)); (try have hm2 : w.heap.size + 1 < w2.heap.size := by (have hq := hb2.size; (try simp at hq); omega)); (try have hn2 : w.heap.size + 1 + 1 < w2.heap.size := by (have hq := hb2.size; (try simp at hq); omega)); (try have hp2 : b < w2.heap.size := by (have hq := hb2.size; (try simp at hq); omega)); (try have ho2 : b' < w2.heap.size := by (have hq := hb2.size; (try simp at hq); omega))
    rw [HK0.out.1]
    have l3 : w.heap.size + 1 + 1 + 1 < w1.heap.size := by have := hb1.size; simp at this; omega
    have l4 : w.heap.size + 1 + 1 + 1 < w2.heap.size := by have := hb2.size; omega
    go_wp2
    refine bodyPost_ret (v := .tuple #[.agg #[.int .i64 0, .int .i64 0], .int .i64 3]) (by simp [results, Try.results48, go_sem, *]) rfl ⟨by rw [HQ.out.1, HQ.out.2.1, HQ.out.2.2], by repeat (with_reducible first | exact Below.refl _ _ | assumption | refine Bel.alloc ?_ _ | refine Bel.step (by assumption) ?_ | refine Below.drew ?_ | refine Bel.drewN ?_ _ | refine Below.setCell ?_ (by first | exact Nat.le_refl _ | omega | (simp; done) | (simp; omega)) _)⟩
  by_cases k2 : plC C 2 xd xt = 0
  rotate_left
  · have HQ := Lib.hid (fo_3 hk (.inr k2))
    have HK := Lib.hid hk
    have HK0 := Lib.hid k0
    have HK2 := Lib.hid (pl_3 k2)
    clear hk k0 k2
    go_enter Try.func48, Try.ntmps48
    go_wp2_with fail
    go_at_call 112; refine (checkLine_c C A c e _ 2 [(ud, ut), (xd, xt)] hn hm (by simp) _ (by repeat (with_reducible first | exact HI.out | assumption | refine Ints.drew ?_ | refine Ints.drewN _ ?_ | refine Ints.alloc _ ?_ | refine Ints.step (by assumption) ?_)) hP).mono ?_; rintro e w1 ⟨rfl, hb1⟩; obtain ⟨hc1, hf1, hz1⟩ := bel hb1; (try simp only [World.size_drew, World.cell?_drew, World.frozen?_drew] at hc1 hf1 hz1); (try simp only [World.heap_drewN, World.cell?_drewN, World.frozen?_drewN] at hc1 hf1 hz1); (try have hl1 : w.heap.size < w1.heap.size := by (have hq := hb1.size; (try simp at hq); omega)); (try have hm1 : w.heap.size + 1 < w1.heap.size := by (have hq := hb1.size; (try simp at hq); omega)); (try have hn1 : w.heap.size + 1 + 1 < w1.heap.size := by (have hq := hb1.size; (try simp at hq); omega)); (try have hp1 : b < w1.heap.size := by (have hq := hb1.size; (try simp at hq); omega)); (try have ho1 : b' < w1.heap.size := by (have hq := hb1.size; (try simp at hq); omega))
    rw [okFs_two, HK.out]
    go_wp2_with fail
    go_at_call 113; refine (chartPlace_c _ _ _ 0 ud ut h hu rfl _ (by repeat (with_reducible first | exact HI.out | assumption | refine Ints.drew ?_ | refine Ints.drewN _ ?_ | refine Ints.alloc _ ?_ | refine Ints.step (by assumption) ?_))).mono ?_; rintro e w2 ⟨rfl, hb2⟩; obtain ⟨hc2, hf2, hz2⟩ := bel hb2; (try simp only [World.size_drew, World.cell?_drew, World.frozen?_drew] at hc2 hf2 hz2); (try simp only [World.heap_drewN, World.cell?_drewN, World.frozen?_drewN] at hc2 hf2 hz2); (try have hl2 : w.heap.size < w2.heap.size := by (have hq := hb2.size; (try simp at hq); omega)); (try have hm2 : w.heap.size + 1 < w2.heap.size := by (have hq := hb2.size; (try simp at hq); omega)); (try have hn2 : w.heap.size + 1 + 1 < w2.heap.size := by (have hq := hb2.size; (try simp at hq); omega)); (try have hp2 : b < w2.heap.size := by (have hq := hb2.size; (try simp at hq); omega)); (try have ho2 : b' < w2.heap.size := by (have hq := hb2.size; (try simp at hq); omega))
    rw [HK0.out]
    go_wp2_with fail
    go_at_call 113; refine (chartPlace_c _ _ _ 2 xd xt h hx rfl _ (by repeat (with_reducible first | exact HI.out | assumption | refine Ints.drew ?_ | refine Ints.drewN _ ?_ | refine Ints.alloc _ ?_ | refine Ints.step (by assumption) ?_))).mono ?_; rintro e w3 ⟨rfl, hb3⟩; obtain ⟨hc3, hf3, hz3⟩ := bel hb3; (try simp only [World.size_drew, World.cell?_drew, World.frozen?_drew] at hc3 hf3 hz3); (try simp only [World.heap_drewN, World.cell?_drewN, World.frozen?_drewN] at hc3 hf3 hz3); (try have hl3 : w.heap.size < w3.heap.size := by (have hq := hb3.size; (try simp at hq); omega)); (try have hm3 : w.heap.size + 1 < w3.heap.size := by (have hq := hb3.size; (try simp at hq); omega)); (try have hn3 : w.heap.size + 1 + 1 < w3.heap.size := by (have hq := hb3.size; (try simp at hq); omega)); (try have hp3 : b < w3.heap.size := by (have hq := hb3.size; (try simp at hq); omega)); (try have ho3 : b' < w3.heap.size := by (have hq := hb3.size; (try simp at hq); omega))
    rw [HK2.out.1]
    have l3 : w.heap.size + 1 + 1 + 1 < w1.heap.size := by have := hb1.size; simp at this; omega
    have l4 : w.heap.size + 1 + 1 + 1 < w2.heap.size := by have := hb2.size; omega
    have r0 : w3.cell? ⟨w.heap.size + 1 + 1 + 1, 0, none⟩ = some (.int .i64 0) := by simp [go_sem, *]
    have r1 : w3.cell? ⟨w.heap.size + 1 + 1 + 1, 1, none⟩ = some (.int .i64 0) := by simp [go_sem, *]
    have g0 : w3.frozen? ⟨w.heap.size + 1 + 1 + 1, 0, none⟩ = false := by simp [go_sem, *]
    have g1 : w3.frozen? ⟨w.heap.size + 1 + 1 + 1, 1, none⟩ = false := by simp [go_sem, *]
    have l5 : w.heap.size + 1 + 1 + 1 < w3.heap.size := by have := hb3.size; simp at this; omega
    go_wp2
    refine bodyPost_ret (v := .tuple #[.agg #[.int .i64 0, .int .i64 0], .int .i64 3]) (by simp [results, Try.results48, go_sem, *]) rfl ⟨by rw [HQ.out.1, HQ.out.2.1, HQ.out.2.2], by repeat (with_reducible first | exact Below.refl _ _ | assumption | refine Bel.alloc ?_ _ | refine Bel.step (by assumption) ?_ | refine Below.drew ?_ | refine Bel.drewN ?_ _ | refine Below.setCell ?_ (by first | exact Nat.le_refl _ | omega | (simp; done) | (simp; omega)) _)⟩
  have HQ := Lib.hid (fo_0 hk k0 k2)
  have HD := Lib.hid (show foX C ud ut xd xt e = mn (Fl ((Fl ((C.lf + C.rt) * plL C 2 xd xt - C.rt * plH C 0 ud ut) C.lf - Cl (e * (C.lf + C.rt)) C.lf) * 1048576) (C.rt * P1 C)) (Fl ((Cl ((C.lf + C.rt) * plH C 2 xd xt - C.rt * plL C 0 ud ut) C.lf + Cl (e * (C.lf + C.rt)) C.lf) * 1048576) (C.rt * P1 C)) ∧ foY C ud ut xd xt e = mx (Cl ((Fl ((C.lf + C.rt) * plL C 2 xd xt - C.rt * plH C 0 ud ut) C.lf - Cl (e * (C.lf + C.rt)) C.lf) * 1048576) (C.rt * P1 C)) (Cl ((Cl ((C.lf + C.rt) * plH C 2 xd xt - C.rt * plL C 0 ud ut) C.lf + Cl (e * (C.lf + C.rt)) C.lf) * 1048576) (C.rt * P1 C)) from ⟨rfl, rfl⟩)
  obtain ⟨⟨m1, m2⟩, ⟨m3, m4⟩, ⟨m5, m6⟩, ⟨m7, m8⟩, ⟨m9, n0⟩, ⟨n1, n2⟩, ⟨n3, n4⟩, ⟨n5, n6⟩, n7, n8, n9, o1⟩ := fo_bd h k0 k2 e1 e2
  obtain ⟨_, ⟨z1, z2⟩, _, ⟨a1, a2⟩, ⟨a3, a4⟩, _, _⟩ := okCh_iff h
  have HK := Lib.hid hk
  have HK0 := Lib.hid k0
  have HK2 := Lib.hid k2
  clear hk k0 k2
  have w1' : IntKind.i64.wrap (e * (C.lf + C.rt)) = e * (C.lf + C.rt) := wr64 (by omega) (by omega)
  have w2' : IntKind.i64.wrap ((C.lf + C.rt) * plL C 2 xd xt) = (C.lf + C.rt) * plL C 2 xd xt := wr64 (by omega) (by omega)
  have w3' : IntKind.i64.wrap ((C.lf + C.rt) * plH C 2 xd xt) = (C.lf + C.rt) * plH C 2 xd xt := wr64 (by omega) (by omega)
  have w4' : IntKind.i64.wrap (C.rt * plL C 0 ud ut) = C.rt * plL C 0 ud ut := wr64 (by omega) (by omega)
  have w5' : IntKind.i64.wrap (C.rt * plH C 0 ud ut) = C.rt * plH C 0 ud ut := wr64 (by omega) (by omega)
  have w6' : IntKind.i64.wrap (C.rt * P1 C) = C.rt * P1 C := wr64 (by omega) (by omega)
  go_enter Try.func48, Try.ntmps48
  go_wp2_with fail
  go_at_call 112; refine (checkLine_c C A c e _ 2 [(ud, ut), (xd, xt)] hn hm (by simp) _ (by repeat (with_reducible first | exact HI.out | assumption | refine Ints.drew ?_ | refine Ints.drewN _ ?_ | refine Ints.alloc _ ?_ | refine Ints.step (by assumption) ?_)) hP).mono ?_; rintro e w1 ⟨rfl, hb1⟩; obtain ⟨hc1, hf1, hz1⟩ := bel hb1; (try simp only [World.size_drew, World.cell?_drew, World.frozen?_drew] at hc1 hf1 hz1); (try simp only [World.heap_drewN, World.cell?_drewN, World.frozen?_drewN] at hc1 hf1 hz1); (try have hl1 : w.heap.size < w1.heap.size := by (have hq := hb1.size; (try simp at hq); omega)); (try have hm1 : w.heap.size + 1 < w1.heap.size := by (have hq := hb1.size; (try simp at hq); omega)); (try have hn1 : w.heap.size + 1 + 1 < w1.heap.size := by (have hq := hb1.size; (try simp at hq); omega)); (try have hp1 : b < w1.heap.size := by (have hq := hb1.size; (try simp at hq); omega)); (try have ho1 : b' < w1.heap.size := by (have hq := hb1.size; (try simp at hq); omega))
  rw [okFs_two, HK.out]
  go_wp2_with fail
  go_at_call 113; refine (chartPlace_c _ _ _ 0 ud ut h hu rfl _ (by repeat (with_reducible first | exact HI.out | assumption | refine Ints.drew ?_ | refine Ints.drewN _ ?_ | refine Ints.alloc _ ?_ | refine Ints.step (by assumption) ?_))).mono ?_; rintro e w2 ⟨rfl, hb2⟩; obtain ⟨hc2, hf2, hz2⟩ := bel hb2; (try simp only [World.size_drew, World.cell?_drew, World.frozen?_drew] at hc2 hf2 hz2); (try simp only [World.heap_drewN, World.cell?_drewN, World.frozen?_drewN] at hc2 hf2 hz2); (try have hl2 : w.heap.size < w2.heap.size := by (have hq := hb2.size; (try simp at hq); omega)); (try have hm2 : w.heap.size + 1 < w2.heap.size := by (have hq := hb2.size; (try simp at hq); omega)); (try have hn2 : w.heap.size + 1 + 1 < w2.heap.size := by (have hq := hb2.size; (try simp at hq); omega)); (try have hp2 : b < w2.heap.size := by (have hq := hb2.size; (try simp at hq); omega)); (try have ho2 : b' < w2.heap.size := by (have hq := hb2.size; (try simp at hq); omega))
  rw [HK0.out]
  go_wp2_with fail
  go_at_call 113; refine (chartPlace_c _ _ _ 2 xd xt h hx rfl _ (by repeat (with_reducible first | exact HI.out | assumption | refine Ints.drew ?_ | refine Ints.drewN _ ?_ | refine Ints.alloc _ ?_ | refine Ints.step (by assumption) ?_))).mono ?_; rintro e w3 ⟨rfl, hb3⟩; obtain ⟨hc3, hf3, hz3⟩ := bel hb3; (try simp only [World.size_drew, World.cell?_drew, World.frozen?_drew] at hc3 hf3 hz3); (try simp only [World.heap_drewN, World.cell?_drewN, World.frozen?_drewN] at hc3 hf3 hz3); (try have hl3 : w.heap.size < w3.heap.size := by (have hq := hb3.size; (try simp at hq); omega)); (try have hm3 : w.heap.size + 1 < w3.heap.size := by (have hq := hb3.size; (try simp at hq); omega)); (try have hn3 : w.heap.size + 1 + 1 < w3.heap.size := by (have hq := hb3.size; (try simp at hq); omega)); (try have hp3 : b < w3.heap.size := by (have hq := hb3.size; (try simp at hq); omega)); (try have ho3 : b' < w3.heap.size := by (have hq := hb3.size; (try simp at hq); omega))
  rw [HK2.out]
  have l3 : w.heap.size + 1 + 1 + 1 < w1.heap.size := by have := hb1.size; simp at this; omega
  have l4 : w.heap.size + 1 + 1 + 1 < w2.heap.size := by have := hb2.size; omega
  have l6 : w2.heap.size < w3.heap.size := by have := hb3.size; simp at this; omega
  have r0 : w3.cell? ⟨w.heap.size + 1 + 1 + 1, 0, none⟩ = some (.int .i64 0) := by simp [go_sem, *]
  have r1 : w3.cell? ⟨w.heap.size + 1 + 1 + 1, 1, none⟩ = some (.int .i64 0) := by simp [go_sem, *]
  have g0 : w3.frozen? ⟨w.heap.size + 1 + 1 + 1, 0, none⟩ = false := by simp [go_sem, *]
  have g1 : w3.frozen? ⟨w.heap.size + 1 + 1 + 1, 1, none⟩ = false := by simp [go_sem, *]
  have l5 : w.heap.size + 1 + 1 + 1 < w3.heap.size := by omega
  have q3 : w3.cell? ⟨w.heap.size, 3, none⟩ = some (.slice A C.zs.length c) := by simp [go_sem, *]
  have q5 : w3.cell? ⟨w.heap.size, 5, none⟩ = some (.int .i64 C.lf) := by simp [go_sem, *]
  have q6 : w3.cell? ⟨w.heap.size, 6, none⟩ = some (.int .i64 C.rt) := by simp [go_sem, *]
  have y0 : w3.cell? ⟨w2.heap.size, 0, none⟩ = some (.int .i64 (plL C 0 ud ut)) := by simp [go_sem, *]
  have y1 : w3.cell? ⟨w2.heap.size, 1, none⟩ = some (.int .i64 (plH C 0 ud ut)) := by simp [go_sem, *]
  have hbel3 : Below w.heap.size w w3 := by repeat (with_reducible first | exact Below.refl _ _ | assumption | refine Bel.alloc ?_ _ | refine Bel.step (by assumption) ?_ | refine Below.drew ?_ | refine Bel.drewN ?_ _ | refine Below.setCell ?_ (by first | exact Nat.le_refl _ | omega | (simp; done) | (simp; omega)) _)
  obtain ⟨b, o, rfl, hbb, i0, i1⟩ := (Ints.step hbel3 HI.out).pows z1
  have l7 : w.heap.size < w3.heap.size := by omega
  have nn1 : w.heap.size + 1 + 1 + 1 ≠ w2.heap.size := by omega
  have nn2 : w2.heap.size ≠ w.heap.size + 1 + 1 + 1 := by omega
  have nn3 : w.heap.size + 1 + 1 + 1 ≠ w3.heap.size := by omega
  have nn4 : w3.heap.size ≠ w.heap.size + 1 + 1 + 1 := by omega
  clear hb1 hc1 hf1 hz1 hb2 hc2 hf2 hz2 hb3 hc3 hf3 hz3
  generalize w2.heap.size = Y at *
  go_wp2_with fail
  go_at_call 114; refine (up_c _ _ (by omega) (by omega) (by omega) (by omega) (by omega) _).mono ?_; rintro e w' ⟨rfl, rfl⟩
  generalize Cl (e * (C.lf + C.rt)) C.lf = E at *
  go_wp2_with fail
  go_at_call 115; refine (down_c _ _ (by omega) (by omega) (by omega) (by omega) (by omega) _).mono ?_; rintro e w' ⟨rfl, rfl⟩
  generalize Fl ((C.lf + C.rt) * plL C 2 xd xt - C.rt * plH C 0 ud ut) C.lf = lo at *
  go_wp2_with fail
  go_at_call 114; refine (up_c _ _ (by omega) (by omega) (by omega) (by omega) (by omega) _).mono ?_; rintro e w' ⟨rfl, rfl⟩
  generalize Cl ((C.lf + C.rt) * plH C 2 xd xt - C.rt * plL C 0 ud ut) C.lf = hi at *
  have w7' : IntKind.i64.wrap (lo - E) = lo - E := wr64 (by omega) (by omega)
  have w8' : IntKind.i64.wrap (hi + E) = hi + E := wr64 (by omega) (by omega)
  go_wp2
  go_quiet (fail)
  generalize C.rt * P1 C = M at *
  by_cases hM : M < 0
  · have HM := Lib.hid (And.intro (mn_ge (Fl_anti hM (show (lo - E) * 1048576 ≤ (hi + E) * 1048576 by omega))) (mx_ge (Cl_anti hM (show (lo - E) * 1048576 ≤ (hi + E) * 1048576 by omega))))
    go_wp2_with fail
    go_at_call 115; refine (down_c _ _ (by omega) (by omega) (by omega) (by omega) (by omega) _).mono ?_; rintro e w' ⟨rfl, rfl⟩
    go_wp2_with fail
    go_at_call 114; refine (up_c _ _ (by omega) (by omega) (by omega) (by omega) (by omega) _).mono ?_; rintro e w' ⟨rfl, rfl⟩
    go_wp2
    refine bodyPost_ret (v := .tuple #[.agg #[.int .i64 (Fl ((hi + E) * 1048576) M), .int .i64 (Cl ((lo - E) * 1048576) M)], .int .i64 0]) (by simp [results, Try.results48, go_sem, *]) rfl ⟨by rw [HQ.out.1, HQ.out.2.1, HQ.out.2.2, HD.out.1, HD.out.2, HM.out.1, HM.out.2], by repeat (with_reducible first | exact Below.refl _ _ | assumption | refine Bel.alloc ?_ _ | refine Bel.step (by assumption) ?_ | refine Below.drew ?_ | refine Bel.drewN ?_ _ | refine Below.setCell ?_ (by first | exact Nat.le_refl _ | omega | (simp; done) | (simp; omega)) _)⟩
  · have hM' : 0 < M := by omega
    have HM := Lib.hid (And.intro (mn_le (Fl_mono hM' (show (lo - E) * 1048576 ≤ (hi + E) * 1048576 by omega))) (mx_le (Cl_mono hM' (show (lo - E) * 1048576 ≤ (hi + E) * 1048576 by omega))))
    go_wp2_with fail
    go_at_call 115; refine (down_c _ _ (by omega) (by omega) (by omega) (by omega) (by omega) _).mono ?_; rintro e w' ⟨rfl, rfl⟩
    go_wp2_with fail
    go_at_call 114; refine (up_c _ _ (by omega) (by omega) (by omega) (by omega) (by omega) _).mono ?_; rintro e w' ⟨rfl, rfl⟩
    go_wp2
    refine bodyPost_ret (v := .tuple #[.agg #[.int .i64 (Fl ((lo - E) * 1048576) M), .int .i64 (Cl ((hi + E) * 1048576) M)], .int .i64 0]) (by simp [results, Try.results48, go_sem, *]) rfl ⟨by rw [HQ.out.1, HQ.out.2.1, HQ.out.2.2, HD.out.1, HD.out.2, HM.out.1, HM.out.2], by repeat (with_reducible first | exact Below.refl _ _ | assumption | refine Bel.alloc ?_ _ | refine Bel.step (by assumption) ?_ | refine Below.drew ?_ | refine Bel.drewN ?_ _ | refine Below.setCell ?_ (by first | exact Nat.le_refl _ | omega | (simp; done) | (simp; omega)) _)⟩
end Go.Proofs.Ythfphjbaglgacaa
