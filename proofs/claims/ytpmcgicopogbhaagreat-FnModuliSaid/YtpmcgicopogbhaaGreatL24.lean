/- Chapter 24: heights of a line. Conditions: as stated at each contract. -/
import Derived.Test.YtpmcgicopogbhaaGreatProg
import Derived.Test.YtpmcgicopogbhaaGreatBase
import Derived.Test.YtpmcgicopogbhaaGreatZy
import Derived.Test.YtpmcgicopogbhaaGreatL01
import Derived.Test.YtpmcgicopogbhaaGreatCp
import Derived.Test.YtpmcgicopogbhaaGreatL18
import Derived.Test.YtpmcgicopogbhaaGreatL23
import Derived.Test.YtpmcgicopogbhaaGreatL03
import Derived.Test.YtpmcgicopogbhaaGreatL23d
import Derived.Test.YtpmcgicopogbhaaGreatL23e
import Derived.WalkKit
import Derived.WalkSpells
import Derived.WalkLawsBesides
import Derived.Lib.Hide
import Derived.Deep.QuietTactic
import Derived.BigQuiet
import Derived.Deep.Draws
import Derived.Deep.RegionHeld3
namespace Go.Proofs.YtpmcgicopogbhaaGreat
set_option linter.unusedSimpArgs false
open Go.RowKit
set_option linter.unusedVariables false
theorem pl_bd {C : Ch} {sc dg tn : Int} (h : plC C sc dg tn = 0) : (-100000 ≤ plL C sc dg tn ∧ plL C sc dg tn ≤ 100000) ∧ -100000 ≤ plH C sc dg tn ∧ plH C sc dg tn ≤ 100000 := by
  have e1 : plL C sc dg tn = cpL C sc dg tn := by simp [plL, h]
  have e2 : plH C sc dg tn = cpH C sc dg tn := by simp [plH, h]
  rw [e1, e2]
  unfold plC at h
  split at h
  · rename_i hh
    simp only [Bool.and_eq_true] at hh
    exact ⟨inB_iff.1 hh.1, inB_iff.1 hh.2⟩
  · cases h
theorem pl_3 {C : Ch} {sc dg tn : Int} (h : plC C sc dg tn ≠ 0) : plC C sc dg tn = 3 ∧ plL C sc dg tn = 0 ∧ plH C sc dg tn = 0 := by
  have : plC C sc dg tn = 3 := by
    unfold plC at *; split at h <;> simp_all
  exact ⟨this, by simp [plL, h], by simp [plH, h]⟩
theorem ck_ok {C : Ch} {sc dg tn : Int} (h : okCh C = true) (hf : okF dg tn = true) (hs : inB sc 0 2 = true) : ckC C sc (okF dg tn) = 0 := by simp [ckC, h, hf, hs]
/-- The code of the heights of a line. -/
def lhC (C : Ch) (ud ut vd vt : Int) : Int := if plC C 0 ud ut = 0 ∧ plC C 1 vd vt = 0 then 0 else 3
def lhX (C : Ch) (ud ut vd vt : Int) : Int := Fl (C.rt * plL C 0 ud ut + C.lf * plL C 1 vd vt) (C.lf + C.rt)
def lhY (C : Ch) (ud ut vd vt : Int) : Int := Cl (C.rt * plH C 0 ud ut + C.lf * plH C 1 vd vt) (C.lf + C.rt)
def lhL (C : Ch) (ud ut vd vt : Int) : Int := if lhC C ud ut vd vt = 0 then lhX C ud ut vd vt else 0
def lhH (C : Ch) (ud ut vd vt : Int) : Int := if lhC C ud ut vd vt = 0 then lhY C ud ut vd vt else 0
theorem lh_0 {C : Ch} {ud ut vd vt : Int} (h1 : plC C 0 ud ut = 0) (h2 : plC C 1 vd vt = 0) : lhC C ud ut vd vt = 0 ∧ lhL C ud ut vd vt = lhX C ud ut vd vt ∧ lhH C ud ut vd vt = lhY C ud ut vd vt := by
  have : lhC C ud ut vd vt = 0 := by simp [lhC, h1, h2]
  exact ⟨this, by simp [lhL, this], by simp [lhH, this]⟩
theorem lh_3 {C : Ch} {ud ut vd vt : Int} (h : plC C 0 ud ut ≠ 0 ∨ plC C 1 vd vt ≠ 0) : lhC C ud ut vd vt = 3 ∧ lhL C ud ut vd vt = 0 ∧ lhH C ud ut vd vt = 0 := by
  have : lhC C ud ut vd vt = 3 := by
    unfold lhC
    rw [if_neg]
    rintro ⟨a, b⟩
    rcases h with h | h
    · exact h a
    · exact h b
  exact ⟨this, by simp [lhL, this], by simp [lhH, this]⟩
set_option maxHeartbeats 2000000 in
theorem l24Heights_c (C : Ch) (A : Option Addr) (c : Nat) (ud ut vd vt : Int) (hn : C.zs.length ≤ 1048576) (hm : C.nm.size ≤ 1048576) (h : okCh C = true) (hu : okF ud ut = true) (hv : okF vd vt = true) (w : World) (hA : Ints w A C.zs) :
    Calls Tryz.prog 150 #[.agg #[.int .i64 C.dg, .int .i64 C.tn, .string C.nm, .slice A C.zs.length c, .int .i64 C.wd, .int .i64 C.lf, .int .i64 C.rt], .agg #[.int .i64 ud, .int .i64 ut], .agg #[.int .i64 vd, .int .i64 vt]] w fun r w' => r = .returned (.tuple #[.agg #[.int .i64 (lhL C ud ut vd vt), .int .i64 (lhH C ud ut vd vt)], .int .i64 (lhC C ud ut vd vt)]) ∧ Below w.heap.size w w' := by
  have HQ0 := Lib.hid (cq_pl (ck_ok (sc := 0) h hu rfl))
  have HQ1 := Lib.hid (cq_pl (ck_ok (sc := 1) h hv rfl))
  by_cases k0 : plC C 0 ud ut = 0
  · by_cases k1 : plC C 1 vd vt = 0
    · have HV := Lib.hid (lh_0 k0 k1)
      have HE := Lib.hid (show lhX C ud ut vd vt = Fl (C.rt * plL C 0 ud ut + C.lf * plL C 1 vd vt) (C.lf + C.rt) ∧ lhY C ud ut vd vt = Cl (C.rt * plH C 0 ud ut + C.lf * plH C 1 vd vt) (C.lf + C.rt) from ⟨rfl, rfl⟩)
      obtain ⟨⟨p1, p2⟩, p3, p4⟩ := pl_bd k0
      obtain ⟨⟨q1, q2⟩, q3, q4⟩ := pl_bd k1
      obtain ⟨_, _, _, ⟨a1, a2⟩, ⟨a3, a4⟩, _, _⟩ := okCh_iff h
      have HK0 := Lib.hid k0
      have HK1 := Lib.hid k1
      clear k0 k1
      have m1 := mul_bd C.rt (plL C 0 ud ut) 20000 100000 (by omega) a4 p1 p2
      have m2 := mul_bd C.lf (plL C 1 vd vt) 20000 100000 (by omega) a2 q1 q2
      have m3 := mul_bd C.rt (plH C 0 ud ut) 20000 100000 (by omega) a4 p3 p4
      have m4 := mul_bd C.lf (plH C 1 vd vt) 20000 100000 (by omega) a2 q3 q4
      have e1 : IntKind.i64.wrap (C.rt * plL C 0 ud ut) = C.rt * plL C 0 ud ut := wr64 (by omega) (by omega)
      have e2 : IntKind.i64.wrap (C.lf * plL C 1 vd vt) = C.lf * plL C 1 vd vt := wr64 (by omega) (by omega)
      have e3 : IntKind.i64.wrap (C.rt * plH C 0 ud ut) = C.rt * plH C 0 ud ut := wr64 (by omega) (by omega)
      have e4 : IntKind.i64.wrap (C.lf * plH C 1 vd vt) = C.lf * plH C 1 vd vt := wr64 (by omega) (by omega)
      have e5 : IntKind.i64.wrap (C.rt * plL C 0 ud ut + C.lf * plL C 1 vd vt) = C.rt * plL C 0 ud ut + C.lf * plL C 1 vd vt := wr64 (by omega) (by omega)
      have e6 : IntKind.i64.wrap (C.rt * plH C 0 ud ut + C.lf * plH C 1 vd vt) = C.rt * plH C 0 ud ut + C.lf * plH C 1 vd vt := wr64 (by omega) (by omega)
      go_enter Tryz.func150, Tryz.ntmps150
      go_wp2_with fail
      go_at_call 146; refine (ChartPlace_S _ _ _ _ _ _ hn hm _ (Ints.alloc _ (Ints.alloc _ (Ints.alloc _ (Ints.alloc _ hA))))).mono ?_; rintro e w1 ⟨rfl, hb1⟩; obtain ⟨hc1, hf1, hz1⟩ := bel hb1; (try simp only [World.size_drew, World.cell?_drew, World.frozen?_drew, World.heap_drewN, World.cell?_drewN, World.frozen?_drewN] at hc1 hf1 hz1); (try have hl1 : w.heap.size < w1.heap.size := zl hb1); (try have hm1 : w.heap.size + 1 < w1.heap.size := zl hb1); (try have hn1 : w.heap.size + 1 + 1 < w1.heap.size := zl hb1); (try have hp1 : b < w1.heap.size := zl hb1); (try have ho1 : b' < w1.heap.size := by (have hq := hb1.size; (try simp at hq); omega))
      rw [HQ0.out.1, HQ0.out.2.1, HQ0.out.2.2, HK0.out]
      go_wp2_with fail
      go_at_call 146; refine (ChartPlace_S _ _ _ _ _ _ hn hm _ (Ints.alloc _ (Ints.step hb1 (Ints.alloc _ (Ints.alloc _ (Ints.alloc _ (Ints.alloc _ hA))))))).mono ?_; rintro e w2 ⟨rfl, hb2⟩; obtain ⟨hc2, hf2, hz2⟩ := bel hb2; (try simp only [World.size_drew, World.cell?_drew, World.frozen?_drew, World.heap_drewN, World.cell?_drewN, World.frozen?_drewN] at hc2 hf2 hz2); (try have hl2 : w.heap.size < w2.heap.size := zl hb2); (try have hm2 : w.heap.size + 1 < w2.heap.size := zl hb2); (try have hn2 : w.heap.size + 1 + 1 < w2.heap.size := zl hb2); (try have hp2 : b < w2.heap.size := zl hb2); (try have ho2 : b' < w2.heap.size := by (have hq := hb2.size; (try simp at hq); omega))
      rw [HQ1.out.1, HQ1.out.2.1, HQ1.out.2.2, HK1.out]
      have s5 : w2.cell? ⟨w.heap.size, 5, none⟩ = some (.int .i64 C.lf) := by simp [go_sem, *]
      have s6 : w2.cell? ⟨w.heap.size, 6, none⟩ = some (.int .i64 C.rt) := by simp [go_sem, *]
      have t0 : w2.cell? ⟨w1.heap.size, 0, none⟩ = some (.int .i64 (plL C 0 ud ut)) := by simp [go_sem, *]
      have t1 : w2.cell? ⟨w1.heap.size, 1, none⟩ = some (.int .i64 (plH C 0 ud ut)) := by simp [go_sem, *]
      have r0 : w2.cell? ⟨w.heap.size + 1 + 1 + 1, 0, none⟩ = some (.int .i64 0) := by
        have : w.heap.size + 1 + 1 + 1 < w1.heap.size := by have := hb1.size; simp at this; omega
        simp [go_sem, *]
      have r1 : w2.cell? ⟨w.heap.size + 1 + 1 + 1, 1, none⟩ = some (.int .i64 0) := by
        have : w.heap.size + 1 + 1 + 1 < w1.heap.size := by have := hb1.size; simp at this; omega
        simp [go_sem, *]
      have g0 : w2.frozen? ⟨w.heap.size + 1 + 1 + 1, 0, none⟩ = false := by
        have : w.heap.size + 1 + 1 + 1 < w1.heap.size := by have := hb1.size; simp at this; omega
        simp [go_sem, *]
      have g1 : w2.frozen? ⟨w.heap.size + 1 + 1 + 1, 1, none⟩ = false := by
        have : w.heap.size + 1 + 1 + 1 < w1.heap.size := by have := hb1.size; simp at this; omega
        simp [go_sem, *]
      have hbel2 : Below w.heap.size w w2 := by repeat (with_reducible first | exact Below.refl _ _ | assumption | refine Bel.alloc ?_ _ | refine Bel.step (by assumption) ?_ | refine Below.drew ?_ | refine Bel.drewN ?_ _ | refine Below.setCell ?_ (by first | exact Nat.le_refl _ | omega | (simp; done) | (simp; omega)) _)
      have l0 : w.heap.size < w2.heap.size := by have := hb2.size; simp at this; omega
      have l1 : w1.heap.size < w2.heap.size := by have := hb2.size; simp at this; omega
      have l3 : w.heap.size + 1 + 1 + 1 < w1.heap.size := by have := hb1.size; simp at this; omega
      have l2 : w.heap.size + 1 + 1 + 1 < w2.heap.size := by have := hb2.size; simp at this; omega
      have n3 : w1.heap.size ≠ w.heap.size + 1 + 1 + 1 := by omega
      have n4 : w.heap.size + 1 + 1 + 1 ≠ w1.heap.size := by omega
      clear hb1 hc1 hf1 hz1 hb2 hc2 hf2 hz2
      go_wp2
      generalize hV : w2.alloc (.cells #[.int .i64 (plL C 1 vd vt), .int .i64 (plH C 1 vd vt)] 92) = V
      have hbV : Below w2.heap.size w2 V := by rw [← hV]; repeat (with_reducible first | exact Below.refl _ _ | assumption | refine Bel.alloc ?_ _ | refine Bel.step (by assumption) ?_ | refine Below.drew ?_ | refine Bel.drewN ?_ _ | refine Below.setCell ?_ (by first | exact Nat.le_refl _ | omega | (simp; done) | (simp; omega)) _)
      have y0 : V.cell? ⟨w2.heap.size, 0, none⟩ = some (.int .i64 (plL C 1 vd vt)) := by rw [← hV]; simp [go_sem]
      have y1 : V.cell? ⟨w2.heap.size, 1, none⟩ = some (.int .i64 (plH C 1 vd vt)) := by rw [← hV]; simp [go_sem]
      obtain ⟨hc1, hf1, hz1⟩ := bel hbV
      have hbelV := Bel.step hbV hbel2
      have S5 := (hc1 _ _ l0).trans s5
      have S6 := (hc1 _ _ l0).trans s6
      have T0 := (hc1 _ _ l1).trans t0
      have T1 := (hc1 _ _ l1).trans t1
      have R0 := (hc1 _ _ l2).trans r0
      have R1 := (hc1 _ _ l2).trans r1
      have G0 := (hf1 _ _ l2).trans g0
      have G1 := (hf1 _ _ l2).trans g1
      clear hV hbV hc1 hf1 hz1 s5 s6 t0 t1 r0 r1 g0 g1
      go_region_held3 (fun w' => w'.cell? ⟨w.heap.size, 5, none⟩ = some (.int .i64 C.lf) ∧ w'.cell? ⟨w.heap.size, 6, none⟩ = some (.int .i64 C.rt) ∧ w'.cell? ⟨w1.heap.size, 0, none⟩ = some (.int .i64 (plL C 0 ud ut)) ∧ w'.cell? ⟨w1.heap.size, 1, none⟩ = some (.int .i64 (plH C 0 ud ut)) ∧ w'.cell? ⟨w2.heap.size, 0, none⟩ = some (.int .i64 (plL C 1 vd vt)) ∧ w'.cell? ⟨w2.heap.size, 1, none⟩ = some (.int .i64 (plH C 1 vd vt))) (simp [go_sem, *])
          (first | (go_at_call 135; refine (l01Floor_c _ _ (by omega) (by omega) (by omega) (by omega) (by omega) _).mono ?_; rintro e w' ⟨rfl, rfl⟩) | (go_at_call 99; refine (l01Ceil_c _ _ (by omega) (by omega) (by omega) (by omega) (by omega) _).mono ?_; rintro e w' ⟨rfl, rfl⟩))
      all_goals
        go_wp2
        refine bodyPost_ret (v := .tuple #[.agg #[.int .i64 (Fl (C.rt * plL C 0 ud ut + C.lf * plL C 1 vd vt) (C.lf + C.rt)), .int .i64 (Cl (C.rt * plH C 0 ud ut + C.lf * plH C 1 vd vt) (C.lf + C.rt))], .int .i64 0]) (by simp [results, Tryz.results150, go_sem, *]) rfl ⟨by rw [HV.out.1, HV.out.2.1, HV.out.2.2, HE.out.1, HE.out.2], by repeat (with_reducible first | exact Below.refl _ _ | assumption | refine Bel.alloc ?_ _ | refine Bel.step (by assumption) ?_ | refine Below.drew ?_ | refine Bel.drewN ?_ _ | refine Below.setCell ?_ (by first | exact Nat.le_refl _ | omega | (simp; done) | (simp; omega)) _)⟩
    · have HV := Lib.hid (lh_3 (C := C) (ud := ud) (ut := ut) (.inr k1))
      have HK0 := Lib.hid k0
      have HK1 := Lib.hid (pl_3 k1)
      clear k0 k1
      go_enter Tryz.func150, Tryz.ntmps150
      go_wp2_with fail
      go_at_call 146; refine (ChartPlace_S _ _ _ _ _ _ hn hm _ (Ints.alloc _ (Ints.alloc _ (Ints.alloc _ (Ints.alloc _ hA))))).mono ?_; rintro e w1 ⟨rfl, hb1⟩; obtain ⟨hc1, hf1, hz1⟩ := bel hb1; (try simp only [World.size_drew, World.cell?_drew, World.frozen?_drew, World.heap_drewN, World.cell?_drewN, World.frozen?_drewN] at hc1 hf1 hz1); (try have hl1 : w.heap.size < w1.heap.size := zl hb1); (try have hm1 : w.heap.size + 1 < w1.heap.size := zl hb1); (try have hn1 : w.heap.size + 1 + 1 < w1.heap.size := zl hb1); (try have hp1 : b < w1.heap.size := zl hb1); (try have ho1 : b' < w1.heap.size := by (have hq := hb1.size; (try simp at hq); omega))
      rw [HQ0.out.1, HQ0.out.2.1, HQ0.out.2.2, HK0.out]
      go_wp2_with fail
      go_at_call 146; refine (ChartPlace_S _ _ _ _ _ _ hn hm _ (Ints.alloc _ (Ints.step hb1 (Ints.alloc _ (Ints.alloc _ (Ints.alloc _ (Ints.alloc _ hA))))))).mono ?_; rintro e w2 ⟨rfl, hb2⟩; obtain ⟨hc2, hf2, hz2⟩ := bel hb2; (try simp only [World.size_drew, World.cell?_drew, World.frozen?_drew, World.heap_drewN, World.cell?_drewN, World.frozen?_drewN] at hc2 hf2 hz2); (try have hl2 : w.heap.size < w2.heap.size := zl hb2); (try have hm2 : w.heap.size + 1 < w2.heap.size := zl hb2); (try have hn2 : w.heap.size + 1 + 1 < w2.heap.size := zl hb2); (try have hp2 : b < w2.heap.size := zl hb2); (try have ho2 : b' < w2.heap.size := by (have hq := hb2.size; (try simp at hq); omega))
      rw [HQ1.out.1, HQ1.out.2.1, HQ1.out.2.2, HK1.out.1]
      have l3 : w.heap.size + 1 + 1 + 1 < w1.heap.size := by have := hb1.size; simp at this; omega
      have r0 : w2.cell? ⟨w.heap.size + 1 + 1 + 1, 0, none⟩ = some (.int .i64 0) := by simp [go_sem, *]
      have r1 : w2.cell? ⟨w.heap.size + 1 + 1 + 1, 1, none⟩ = some (.int .i64 0) := by simp [go_sem, *]
      have g0 : w2.frozen? ⟨w.heap.size + 1 + 1 + 1, 0, none⟩ = false := by simp [go_sem, *]
      have g1 : w2.frozen? ⟨w.heap.size + 1 + 1 + 1, 1, none⟩ = false := by simp [go_sem, *]
      have l2 : w.heap.size + 1 + 1 + 1 < w2.heap.size := by have := hb2.size; simp at this; omega
      go_wp2
      refine bodyPost_ret (v := .tuple #[.agg #[.int .i64 0, .int .i64 0], .int .i64 3]) (by simp [results, Tryz.results150, go_sem, *]) rfl ⟨by rw [HV.out.1, HV.out.2.1, HV.out.2.2], by repeat (with_reducible first | exact Below.refl _ _ | assumption | refine Bel.alloc ?_ _ | refine Bel.step (by assumption) ?_ | refine Below.drew ?_ | refine Bel.drewN ?_ _ | refine Below.setCell ?_ (by first | exact Nat.le_refl _ | omega | (simp; done) | (simp; omega)) _)⟩
  · have HV := Lib.hid (lh_3 (C := C) (vd := vd) (vt := vt) (.inl k0))
    have HK0 := Lib.hid (pl_3 k0)
    clear k0
    go_enter Tryz.func150, Tryz.ntmps150
    go_wp2_with fail
    go_at_call 146; refine (ChartPlace_S _ _ _ _ _ _ hn hm _ (Ints.alloc _ (Ints.alloc _ (Ints.alloc _ (Ints.alloc _ hA))))).mono ?_; rintro e w1 ⟨rfl, hb1⟩; obtain ⟨hc1, hf1, hz1⟩ := bel hb1; (try simp only [World.size_drew, World.cell?_drew, World.frozen?_drew, World.heap_drewN, World.cell?_drewN, World.frozen?_drewN] at hc1 hf1 hz1); (try have hl1 : w.heap.size < w1.heap.size := zl hb1); (try have hm1 : w.heap.size + 1 < w1.heap.size := zl hb1); (try have hn1 : w.heap.size + 1 + 1 < w1.heap.size := zl hb1); (try have hp1 : b < w1.heap.size := zl hb1); (try have ho1 : b' < w1.heap.size := by (have hq := hb1.size; (try simp at hq); omega))
    rw [HQ0.out.1, HQ0.out.2.1, HQ0.out.2.2, HK0.out.1]
    go_wp2_with fail
    go_at_call 146; refine (ChartPlace_S _ _ _ _ _ _ hn hm _ (Ints.alloc _ (Ints.step hb1 (Ints.alloc _ (Ints.alloc _ (Ints.alloc _ (Ints.alloc _ hA))))))).mono ?_; rintro e w2 ⟨rfl, hb2⟩; obtain ⟨hc2, hf2, hz2⟩ := bel hb2; (try simp only [World.size_drew, World.cell?_drew, World.frozen?_drew, World.heap_drewN, World.cell?_drewN, World.frozen?_drewN] at hc2 hf2 hz2); (try have hl2 : w.heap.size < w2.heap.size := zl hb2); (try have hm2 : w.heap.size + 1 < w2.heap.size := zl hb2); (try have hn2 : w.heap.size + 1 + 1 < w2.heap.size := zl hb2); (try have hp2 : b < w2.heap.size := zl hb2); (try have ho2 : b' < w2.heap.size := by (have hq := hb2.size; (try simp at hq); omega))
    have l3 : w.heap.size + 1 + 1 + 1 < w1.heap.size := by have := hb1.size; simp at this; omega
    have r0 : w2.cell? ⟨w.heap.size + 1 + 1 + 1, 0, none⟩ = some (.int .i64 0) := by simp [go_sem, *]
    have r1 : w2.cell? ⟨w.heap.size + 1 + 1 + 1, 1, none⟩ = some (.int .i64 0) := by simp [go_sem, *]
    have g0 : w2.frozen? ⟨w.heap.size + 1 + 1 + 1, 0, none⟩ = false := by simp [go_sem, *]
    have g1 : w2.frozen? ⟨w.heap.size + 1 + 1 + 1, 1, none⟩ = false := by simp [go_sem, *]
    have l2 : w.heap.size + 1 + 1 + 1 < w2.heap.size := by have := hb2.size; simp at this; omega
    go_wp2
    refine bodyPost_ret (v := .tuple #[.agg #[.int .i64 0, .int .i64 0], .int .i64 3]) (by simp [results, Tryz.results150, go_sem, *]) rfl ⟨by rw [HV.out.1, HV.out.2.1, HV.out.2.2], by repeat (with_reducible first | exact Below.refl _ _ | assumption | refine Bel.alloc ?_ _ | refine Bel.step (by assumption) ?_ | refine Below.drew ?_ | refine Bel.drewN ?_ _ | refine Below.setCell ?_ (by first | exact Nat.le_refl _ | omega | (simp; done) | (simp; omega)) _)⟩
set_option maxHeartbeats 2000000 in
theorem lineHeights_c (C : Ch) (A : Option Addr) (c : Nat) (ud ut vd vt : Int) (hn : C.zs.length ≤ 1048576) (hm : C.nm.size ≤ 1048576) (h : okCh C = true) (hu : okF ud ut = true) (hv : okF vd vt = true) (w : World) (hA : Ints w A C.zs) :
    Calls Tryz.prog 124 #[.agg #[.int .i64 C.dg, .int .i64 C.tn, .string C.nm, .slice A C.zs.length c, .int .i64 C.wd, .int .i64 C.lf, .int .i64 C.rt], .agg #[.int .i64 ud, .int .i64 ut], .agg #[.int .i64 vd, .int .i64 vt]] w fun r w' => r = .returned (.tuple #[.agg #[.int .i64 (lhL C ud ut vd vt), .int .i64 (lhH C ud ut vd vt)], .int .i64 (lhC C ud ut vd vt)]) ∧ Below w.heap.size w w' := by
  have HQ0 := Lib.hid (cq_pl (ck_ok (sc := 0) h hu rfl))
  have HQ1 := Lib.hid (cq_pl (ck_ok (sc := 1) h hv rfl))
  by_cases k0 : plC C 0 ud ut = 0
  · by_cases k1 : plC C 1 vd vt = 0
    · have HV := Lib.hid (lh_0 k0 k1)
      have HE := Lib.hid (show lhX C ud ut vd vt = Fl (C.rt * plL C 0 ud ut + C.lf * plL C 1 vd vt) (C.lf + C.rt) ∧ lhY C ud ut vd vt = Cl (C.rt * plH C 0 ud ut + C.lf * plH C 1 vd vt) (C.lf + C.rt) from ⟨rfl, rfl⟩)
      obtain ⟨⟨p1, p2⟩, p3, p4⟩ := pl_bd k0
      obtain ⟨⟨q1, q2⟩, q3, q4⟩ := pl_bd k1
      obtain ⟨_, _, _, ⟨a1, a2⟩, ⟨a3, a4⟩, _, _⟩ := okCh_iff h
      have HK0 := Lib.hid k0
      have HK1 := Lib.hid k1
      clear k0 k1
      have m1 := mul_bd C.rt (plL C 0 ud ut) 20000 100000 (by omega) a4 p1 p2
      have m2 := mul_bd C.lf (plL C 1 vd vt) 20000 100000 (by omega) a2 q1 q2
      have m3 := mul_bd C.rt (plH C 0 ud ut) 20000 100000 (by omega) a4 p3 p4
      have m4 := mul_bd C.lf (plH C 1 vd vt) 20000 100000 (by omega) a2 q3 q4
      have e1 : IntKind.i64.wrap (C.rt * plL C 0 ud ut) = C.rt * plL C 0 ud ut := wr64 (by omega) (by omega)
      have e2 : IntKind.i64.wrap (C.lf * plL C 1 vd vt) = C.lf * plL C 1 vd vt := wr64 (by omega) (by omega)
      have e3 : IntKind.i64.wrap (C.rt * plH C 0 ud ut) = C.rt * plH C 0 ud ut := wr64 (by omega) (by omega)
      have e4 : IntKind.i64.wrap (C.lf * plH C 1 vd vt) = C.lf * plH C 1 vd vt := wr64 (by omega) (by omega)
      have e5 : IntKind.i64.wrap (C.rt * plL C 0 ud ut + C.lf * plL C 1 vd vt) = C.rt * plL C 0 ud ut + C.lf * plL C 1 vd vt := wr64 (by omega) (by omega)
      have e6 : IntKind.i64.wrap (C.rt * plH C 0 ud ut + C.lf * plH C 1 vd vt) = C.rt * plH C 0 ud ut + C.lf * plH C 1 vd vt := wr64 (by omega) (by omega)
      go_enter Tryz.func124, Tryz.ntmps124
      go_wp2_with fail
      go_at_call 144; refine (chartPlace_c _ _ _ 0 ud ut h hu rfl _ (Ints.alloc _ (Ints.alloc _ (Ints.alloc _ (Ints.alloc _ hA))))).mono ?_; rintro e w1 ⟨rfl, hb1⟩; obtain ⟨hc1, hf1, hz1⟩ := bel hb1; (try simp only [World.size_drew, World.cell?_drew, World.frozen?_drew, World.heap_drewN, World.cell?_drewN, World.frozen?_drewN] at hc1 hf1 hz1); (try have hl1 : w.heap.size < w1.heap.size := zl hb1); (try have hm1 : w.heap.size + 1 < w1.heap.size := zl hb1); (try have hn1 : w.heap.size + 1 + 1 < w1.heap.size := zl hb1); (try have hp1 : b < w1.heap.size := zl hb1); (try have ho1 : b' < w1.heap.size := by (have hq := hb1.size; (try simp at hq); omega))
      rw [HK0.out]
      go_wp2_with fail
      go_at_call 144; refine (chartPlace_c _ _ _ 1 vd vt h hv rfl _ (Ints.alloc _ (Ints.step hb1 (Ints.alloc _ (Ints.alloc _ (Ints.alloc _ (Ints.alloc _ hA))))))).mono ?_; rintro e w2 ⟨rfl, hb2⟩; obtain ⟨hc2, hf2, hz2⟩ := bel hb2; (try simp only [World.size_drew, World.cell?_drew, World.frozen?_drew, World.heap_drewN, World.cell?_drewN, World.frozen?_drewN] at hc2 hf2 hz2); (try have hl2 : w.heap.size < w2.heap.size := zl hb2); (try have hm2 : w.heap.size + 1 < w2.heap.size := zl hb2); (try have hn2 : w.heap.size + 1 + 1 < w2.heap.size := zl hb2); (try have hp2 : b < w2.heap.size := zl hb2); (try have ho2 : b' < w2.heap.size := by (have hq := hb2.size; (try simp at hq); omega))
      rw [HK1.out]
      have s5 : w2.cell? ⟨w.heap.size, 5, none⟩ = some (.int .i64 C.lf) := by simp [go_sem, *]
      have s6 : w2.cell? ⟨w.heap.size, 6, none⟩ = some (.int .i64 C.rt) := by simp [go_sem, *]
      have t0 : w2.cell? ⟨w1.heap.size, 0, none⟩ = some (.int .i64 (plL C 0 ud ut)) := by simp [go_sem, *]
      have t1 : w2.cell? ⟨w1.heap.size, 1, none⟩ = some (.int .i64 (plH C 0 ud ut)) := by simp [go_sem, *]
      have r0 : w2.cell? ⟨w.heap.size + 1 + 1 + 1, 0, none⟩ = some (.int .i64 0) := by
        have : w.heap.size + 1 + 1 + 1 < w1.heap.size := by have := hb1.size; simp at this; omega
        simp [go_sem, *]
      have r1 : w2.cell? ⟨w.heap.size + 1 + 1 + 1, 1, none⟩ = some (.int .i64 0) := by
        have : w.heap.size + 1 + 1 + 1 < w1.heap.size := by have := hb1.size; simp at this; omega
        simp [go_sem, *]
      have g0 : w2.frozen? ⟨w.heap.size + 1 + 1 + 1, 0, none⟩ = false := by
        have : w.heap.size + 1 + 1 + 1 < w1.heap.size := by have := hb1.size; simp at this; omega
        simp [go_sem, *]
      have g1 : w2.frozen? ⟨w.heap.size + 1 + 1 + 1, 1, none⟩ = false := by
        have : w.heap.size + 1 + 1 + 1 < w1.heap.size := by have := hb1.size; simp at this; omega
        simp [go_sem, *]
      have hbel2 : Below w.heap.size w w2 := by repeat (with_reducible first | exact Below.refl _ _ | assumption | refine Bel.alloc ?_ _ | refine Bel.step (by assumption) ?_ | refine Below.drew ?_ | refine Bel.drewN ?_ _ | refine Below.setCell ?_ (by first | exact Nat.le_refl _ | omega | (simp; done) | (simp; omega)) _)
      have l0 : w.heap.size < w2.heap.size := by have := hb2.size; simp at this; omega
      have l1 : w1.heap.size < w2.heap.size := by have := hb2.size; simp at this; omega
      have l3 : w.heap.size + 1 + 1 + 1 < w1.heap.size := by have := hb1.size; simp at this; omega
      have l2 : w.heap.size + 1 + 1 + 1 < w2.heap.size := by have := hb2.size; simp at this; omega
      have n3 : w1.heap.size ≠ w.heap.size + 1 + 1 + 1 := by omega
      have n4 : w.heap.size + 1 + 1 + 1 ≠ w1.heap.size := by omega
      clear hb1 hc1 hf1 hz1 hb2 hc2 hf2 hz2
      go_wp2
      generalize hV : w2.alloc (.cells #[.int .i64 (plL C 1 vd vt), .int .i64 (plH C 1 vd vt)] 92) = V
      have hbV : Below w2.heap.size w2 V := by rw [← hV]; repeat (with_reducible first | exact Below.refl _ _ | assumption | refine Bel.alloc ?_ _ | refine Bel.step (by assumption) ?_ | refine Below.drew ?_ | refine Bel.drewN ?_ _ | refine Below.setCell ?_ (by first | exact Nat.le_refl _ | omega | (simp; done) | (simp; omega)) _)
      have y0 : V.cell? ⟨w2.heap.size, 0, none⟩ = some (.int .i64 (plL C 1 vd vt)) := by rw [← hV]; simp [go_sem]
      have y1 : V.cell? ⟨w2.heap.size, 1, none⟩ = some (.int .i64 (plH C 1 vd vt)) := by rw [← hV]; simp [go_sem]
      obtain ⟨hc1, hf1, hz1⟩ := bel hbV
      have hbelV := Bel.step hbV hbel2
      have S5 := (hc1 _ _ l0).trans s5
      have S6 := (hc1 _ _ l0).trans s6
      have T0 := (hc1 _ _ l1).trans t0
      have T1 := (hc1 _ _ l1).trans t1
      have R0 := (hc1 _ _ l2).trans r0
      have R1 := (hc1 _ _ l2).trans r1
      have G0 := (hf1 _ _ l2).trans g0
      have G1 := (hf1 _ _ l2).trans g1
      clear hV hbV hc1 hf1 hz1 s5 s6 t0 t1 r0 r1 g0 g1
      go_region_held3 (fun w' => w'.cell? ⟨w.heap.size, 5, none⟩ = some (.int .i64 C.lf) ∧ w'.cell? ⟨w.heap.size, 6, none⟩ = some (.int .i64 C.rt) ∧ w'.cell? ⟨w1.heap.size, 0, none⟩ = some (.int .i64 (plL C 0 ud ut)) ∧ w'.cell? ⟨w1.heap.size, 1, none⟩ = some (.int .i64 (plH C 0 ud ut)) ∧ w'.cell? ⟨w2.heap.size, 0, none⟩ = some (.int .i64 (plL C 1 vd vt)) ∧ w'.cell? ⟨w2.heap.size, 1, none⟩ = some (.int .i64 (plH C 1 vd vt))) (simp [go_sem, *])
          (first | (go_at_call 134; refine (down_c _ _ (by omega) (by omega) (by omega) (by omega) (by omega) _).mono ?_; rintro e w' ⟨rfl, rfl⟩) | (go_at_call 98; refine (up_c _ _ (by omega) (by omega) (by omega) (by omega) (by omega) _).mono ?_; rintro e w' ⟨rfl, rfl⟩))
      all_goals
        go_wp2
        refine bodyPost_ret (v := .tuple #[.agg #[.int .i64 (Fl (C.rt * plL C 0 ud ut + C.lf * plL C 1 vd vt) (C.lf + C.rt)), .int .i64 (Cl (C.rt * plH C 0 ud ut + C.lf * plH C 1 vd vt) (C.lf + C.rt))], .int .i64 0]) (by simp [results, Tryz.results124, go_sem, *]) rfl ⟨by rw [HV.out.1, HV.out.2.1, HV.out.2.2, HE.out.1, HE.out.2], by repeat (with_reducible first | exact Below.refl _ _ | assumption | refine Bel.alloc ?_ _ | refine Bel.step (by assumption) ?_ | refine Below.drew ?_ | refine Bel.drewN ?_ _ | refine Below.setCell ?_ (by first | exact Nat.le_refl _ | omega | (simp; done) | (simp; omega)) _)⟩
    · have HV := Lib.hid (lh_3 (C := C) (ud := ud) (ut := ut) (.inr k1))
      have HK0 := Lib.hid k0
      have HK1 := Lib.hid (pl_3 k1)
      clear k0 k1
      go_enter Tryz.func124, Tryz.ntmps124
      go_wp2_with fail
      go_at_call 144; refine (chartPlace_c _ _ _ 0 ud ut h hu rfl _ (Ints.alloc _ (Ints.alloc _ (Ints.alloc _ (Ints.alloc _ hA))))).mono ?_; rintro e w1 ⟨rfl, hb1⟩; obtain ⟨hc1, hf1, hz1⟩ := bel hb1; (try simp only [World.size_drew, World.cell?_drew, World.frozen?_drew, World.heap_drewN, World.cell?_drewN, World.frozen?_drewN] at hc1 hf1 hz1); (try have hl1 : w.heap.size < w1.heap.size := zl hb1); (try have hm1 : w.heap.size + 1 < w1.heap.size := zl hb1); (try have hn1 : w.heap.size + 1 + 1 < w1.heap.size := zl hb1); (try have hp1 : b < w1.heap.size := zl hb1); (try have ho1 : b' < w1.heap.size := by (have hq := hb1.size; (try simp at hq); omega))
      rw [HK0.out]
      go_wp2_with fail
      go_at_call 144; refine (chartPlace_c _ _ _ 1 vd vt h hv rfl _ (Ints.alloc _ (Ints.step hb1 (Ints.alloc _ (Ints.alloc _ (Ints.alloc _ (Ints.alloc _ hA))))))).mono ?_; rintro e w2 ⟨rfl, hb2⟩; obtain ⟨hc2, hf2, hz2⟩ := bel hb2; (try simp only [World.size_drew, World.cell?_drew, World.frozen?_drew, World.heap_drewN, World.cell?_drewN, World.frozen?_drewN] at hc2 hf2 hz2); (try have hl2 : w.heap.size < w2.heap.size := zl hb2); (try have hm2 : w.heap.size + 1 < w2.heap.size := zl hb2); (try have hn2 : w.heap.size + 1 + 1 < w2.heap.size := zl hb2); (try have hp2 : b < w2.heap.size := zl hb2); (try have ho2 : b' < w2.heap.size := by (have hq := hb2.size; (try simp at hq); omega))
      rw [HK1.out.1]
      have l3 : w.heap.size + 1 + 1 + 1 < w1.heap.size := by have := hb1.size; simp at this; omega
      have r0 : w2.cell? ⟨w.heap.size + 1 + 1 + 1, 0, none⟩ = some (.int .i64 0) := by simp [go_sem, *]
      have r1 : w2.cell? ⟨w.heap.size + 1 + 1 + 1, 1, none⟩ = some (.int .i64 0) := by simp [go_sem, *]
      have g0 : w2.frozen? ⟨w.heap.size + 1 + 1 + 1, 0, none⟩ = false := by simp [go_sem, *]
      have g1 : w2.frozen? ⟨w.heap.size + 1 + 1 + 1, 1, none⟩ = false := by simp [go_sem, *]
      have l2 : w.heap.size + 1 + 1 + 1 < w2.heap.size := by have := hb2.size; simp at this; omega
      go_wp2
      refine bodyPost_ret (v := .tuple #[.agg #[.int .i64 0, .int .i64 0], .int .i64 3]) (by simp [results, Tryz.results124, go_sem, *]) rfl ⟨by rw [HV.out.1, HV.out.2.1, HV.out.2.2], by repeat (with_reducible first | exact Below.refl _ _ | assumption | refine Bel.alloc ?_ _ | refine Bel.step (by assumption) ?_ | refine Below.drew ?_ | refine Bel.drewN ?_ _ | refine Below.setCell ?_ (by first | exact Nat.le_refl _ | omega | (simp; done) | (simp; omega)) _)⟩
  · have HV := Lib.hid (lh_3 (C := C) (vd := vd) (vt := vt) (.inl k0))
    have HK0 := Lib.hid (pl_3 k0)
    clear k0
    go_enter Tryz.func124, Tryz.ntmps124
    go_wp2_with fail
    go_at_call 144; refine (chartPlace_c _ _ _ 0 ud ut h hu rfl _ (Ints.alloc _ (Ints.alloc _ (Ints.alloc _ (Ints.alloc _ hA))))).mono ?_; rintro e w1 ⟨rfl, hb1⟩; obtain ⟨hc1, hf1, hz1⟩ := bel hb1; (try simp only [World.size_drew, World.cell?_drew, World.frozen?_drew, World.heap_drewN, World.cell?_drewN, World.frozen?_drewN] at hc1 hf1 hz1); (try have hl1 : w.heap.size < w1.heap.size := zl hb1); (try have hm1 : w.heap.size + 1 < w1.heap.size := zl hb1); (try have hn1 : w.heap.size + 1 + 1 < w1.heap.size := zl hb1); (try have hp1 : b < w1.heap.size := zl hb1); (try have ho1 : b' < w1.heap.size := by (have hq := hb1.size; (try simp at hq); omega))
    rw [HK0.out.1]
    have l3 : w.heap.size + 1 + 1 + 1 < w1.heap.size := by have := hb1.size; simp at this; omega
    go_wp2
    refine bodyPost_ret (v := .tuple #[.agg #[.int .i64 0, .int .i64 0], .int .i64 3]) (by simp [results, Tryz.results124, go_sem, *]) rfl ⟨by rw [HV.out.1, HV.out.2.1, HV.out.2.2], by repeat (with_reducible first | exact Below.refl _ _ | assumption | refine Bel.alloc ?_ _ | refine Bel.step (by assumption) ?_ | refine Below.drew ?_ | refine Bel.drewN ?_ _ | refine Below.setCell ?_ (by first | exact Nat.le_refl _ | omega | (simp; done) | (simp; omega)) _)⟩
/-- The heights of a line, with the code. -/
def lqC (C : Ch) (ud ut vd vt : Int) : Int := if clC C 0 (okF ud ut && okF vd vt) = 0 then lhC C ud ut vd vt else clC C 0 (okF ud ut && okF vd vt)
def lqL (C : Ch) (ud ut vd vt : Int) : Int := if clC C 0 (okF ud ut && okF vd vt) = 0 then lhL C ud ut vd vt else 0
def lqH (C : Ch) (ud ut vd vt : Int) : Int := if clC C 0 (okF ud ut && okF vd vt) = 0 then lhH C ud ut vd vt else 0
theorem lq_0 {C : Ch} {ud ut vd vt : Int} (h : clC C 0 (okF ud ut && okF vd vt) = 0) : lqC C ud ut vd vt = lhC C ud ut vd vt ∧ lqL C ud ut vd vt = lhL C ud ut vd vt ∧ lqH C ud ut vd vt = lhH C ud ut vd vt := by simp [lqC, lqL, lqH, h]
theorem lq_no {C : Ch} {ud ut vd vt : Int} (h : clC C 0 (okF ud ut && okF vd vt) ≠ 0) : lqC C ud ut vd vt = clC C 0 (okF ud ut && okF vd vt) ∧ lqL C ud ut vd vt = 0 ∧ lqH C ud ut vd vt = 0 := by simp [lqC, lqL, lqH, h]
theorem l02Two_c (a b c d : Int) (w : World) :
    Calls Tryz.prog 74 #[.agg #[.int .i64 a, .int .i64 b], .agg #[.int .i64 c, .int .i64 d]] w fun e w' => e = .returned (.bool (okF a b && okF c d)) ∧ Below w.heap.size w w' := by
  by_cases h1 : okF a b = true
  · have HV := Lib.hid (show (okF a b && okF c d) = okF c d by rw [h1]; rfl)
    go_enter Tryz.func74, Tryz.ntmps74
    go_wp2_with (first | (go_at_call 68; refine (IsFigure_S _ _ _).mono ?_; rintro e w1 ⟨rfl, hb1⟩; obtain ⟨hc1, hf1, hz1⟩ := bel hb1; (try simp only [World.size_drew, World.cell?_drew, World.frozen?_drew, World.heap_drewN, World.cell?_drewN, World.frozen?_drewN] at hc1 hf1 hz1); (try have hl1 : w.heap.size < w1.heap.size := zl hb1); (try have hm1 : w.heap.size + 1 < w1.heap.size := zl hb1); (try have hn1 : w.heap.size + 1 + 1 < w1.heap.size := zl hb1); (try have hp1 : b < w1.heap.size := zl hb1); (try have ho1 : b' < w1.heap.size := by (have hq := hb1.size; (try simp at hq); omega))))
    go_ret
    exact ⟨ret_bool HV.out.symm, by repeat (with_reducible first | exact Below.refl _ _ | assumption | refine Bel.alloc ?_ _ | refine Bel.step (by assumption) ?_ | refine Below.drew ?_ | refine Bel.drewN ?_ _ | refine Below.setCell ?_ (by first | exact Nat.le_refl _ | omega | (simp; done) | (simp; omega)) _)⟩
  · have h1' : okF a b = false := by simpa using h1
    have HV := Lib.hid (show (okF a b && okF c d) = false by rw [h1']; rfl)
    clear h1
    go_enter Tryz.func74, Tryz.ntmps74
    go_wp2_with (first | (go_at_call 68; refine (IsFigure_S _ _ _).mono ?_; rintro e w1 ⟨rfl, hb1⟩; obtain ⟨hc1, hf1, hz1⟩ := bel hb1; (try simp only [World.size_drew, World.cell?_drew, World.frozen?_drew, World.heap_drewN, World.cell?_drewN, World.frozen?_drewN] at hc1 hf1 hz1); (try have hl1 : w.heap.size < w1.heap.size := zl hb1); (try have hm1 : w.heap.size + 1 < w1.heap.size := zl hb1); (try have hn1 : w.heap.size + 1 + 1 < w1.heap.size := zl hb1); (try have hp1 : b < w1.heap.size := zl hb1); (try have ho1 : b' < w1.heap.size := by (have hq := hb1.size; (try simp at hq); omega))))
    go_ret
    exact ⟨ret_bool HV.out.symm, by repeat (with_reducible first | exact Below.refl _ _ | assumption | refine Bel.alloc ?_ _ | refine Bel.step (by assumption) ?_ | refine Below.drew ?_ | refine Bel.drewN ?_ _ | refine Below.setCell ?_ (by first | exact Nat.le_refl _ | omega | (simp; done) | (simp; omega)) _)⟩
theorem l24Code_c (C : Ch) (A : Option Addr) (c : Nat) (ud ut vd vt e : Int) (hn : C.zs.length ≤ 1048576) (hs : C.nm.size ≤ 1048576) (w : World) (hA : Ints w A C.zs) :
    Calls Tryz.prog 149 #[.agg #[.int .i64 C.dg, .int .i64 C.tn, .string C.nm, .slice A C.zs.length c, .int .i64 C.wd, .int .i64 C.lf, .int .i64 C.rt], .agg #[.int .i64 ud, .int .i64 ut], .agg #[.int .i64 vd, .int .i64 vt], .int .i64 e] w fun r w' => r = .returned (.int .i64 (clC C e (okF ud ut && okF vd vt))) ∧ Below w.heap.size w w' := by
  obtain ⟨ok, hok⟩ : ∃ ok, ok = (okF ud ut && okF vd vt) := ⟨_, rfl⟩
  have H2 := Lib.hid hok
  rw [← hok]
  clear hok
  by_cases h1 : okCh C = true
  · cases ok
    · have HV := Lib.hid (show clC C e false = 1 by simp [clC])
      go_enter Tryz.func149, Tryz.ntmps149
      go_wp2_with fail
      go_at_call 54; refine (IsChart_S _ _ _ hn hs _ (Ints.alloc _ (Ints.alloc _ (Ints.alloc _ hA)))).mono ?_; rintro e w1 ⟨rfl, hb1⟩; obtain ⟨hc1, hf1, hz1⟩ := bel hb1; (try simp only [World.size_drew, World.cell?_drew, World.frozen?_drew, World.heap_drewN, World.cell?_drewN, World.frozen?_drewN] at hc1 hf1 hz1); (try have hl1 : w.heap.size < w1.heap.size := zl hb1); (try have hm1 : w.heap.size + 1 < w1.heap.size := zl hb1); (try have hn1 : w.heap.size + 1 + 1 < w1.heap.size := zl hb1); (try have hp1 : b < w1.heap.size := zl hb1); (try have ho1 : b' < w1.heap.size := by (have hq := hb1.size; (try simp at hq); omega))
      go_wp2_with fail
      go_at_call 74; refine (l02Two_c _ _ _ _ _).mono ?_; rintro e w2 ⟨rfl, hb2⟩; obtain ⟨hc2, hf2, hz2⟩ := bel hb2; (try simp only [World.size_drew, World.cell?_drew, World.frozen?_drew, World.heap_drewN, World.cell?_drewN, World.frozen?_drewN] at hc2 hf2 hz2); (try have hl2 : w.heap.size < w2.heap.size := zl hb2); (try have hm2 : w.heap.size + 1 < w2.heap.size := zl hb2); (try have hn2 : w.heap.size + 1 + 1 < w2.heap.size := zl hb2); (try have hp2 : b < w2.heap.size := zl hb2); (try have ho2 : b' < w2.heap.size := by (have hq := hb2.size; (try simp at hq); omega))
      rw [← H2.out]
      go_wp2
      go_ret
      exact ⟨ret_int HV.out.symm, by repeat (with_reducible first | exact Below.refl _ _ | assumption | refine Bel.alloc ?_ _ | refine Bel.step (by assumption) ?_ | refine Below.drew ?_ | refine Bel.drewN ?_ _ | refine Below.setCell ?_ (by first | exact Nat.le_refl _ | omega | (simp; done) | (simp; omega)) _)⟩
    · by_cases h3 : inB e 0 200 = true
      · have HV := Lib.hid (show clC C e true = 0 by simp [clC, h1, h3])
        go_enter Tryz.func149, Tryz.ntmps149
        go_wp2_with fail
        go_at_call 54; refine (IsChart_S _ _ _ hn hs _ (Ints.alloc _ (Ints.alloc _ (Ints.alloc _ hA)))).mono ?_; rintro e w1 ⟨rfl, hb1⟩; obtain ⟨hc1, hf1, hz1⟩ := bel hb1; (try simp only [World.size_drew, World.cell?_drew, World.frozen?_drew, World.heap_drewN, World.cell?_drewN, World.frozen?_drewN] at hc1 hf1 hz1); (try have hl1 : w.heap.size < w1.heap.size := zl hb1); (try have hm1 : w.heap.size + 1 < w1.heap.size := zl hb1); (try have hn1 : w.heap.size + 1 + 1 < w1.heap.size := zl hb1); (try have hp1 : b < w1.heap.size := zl hb1); (try have ho1 : b' < w1.heap.size := by (have hq := hb1.size; (try simp at hq); omega))
        go_wp2_with fail
        go_at_call 74; refine (l02Two_c _ _ _ _ _).mono ?_; rintro e w2 ⟨rfl, hb2⟩; obtain ⟨hc2, hf2, hz2⟩ := bel hb2; (try simp only [World.size_drew, World.cell?_drew, World.frozen?_drew, World.heap_drewN, World.cell?_drewN, World.frozen?_drewN] at hc2 hf2 hz2); (try have hl2 : w.heap.size < w2.heap.size := zl hb2); (try have hm2 : w.heap.size + 1 < w2.heap.size := zl hb2); (try have hn2 : w.heap.size + 1 + 1 < w2.heap.size := zl hb2); (try have hp2 : b < w2.heap.size := zl hb2); (try have ho2 : b' < w2.heap.size := by (have hq := hb2.size; (try simp at hq); omega))
        rw [← H2.out]
        go_wp2_with (first | (go_at_call 55; refine (l01In_c _ _ _ _).mono ?_; rintro e w' ⟨rfl, rfl⟩))
        go_ret
        exact ⟨ret_int HV.out.symm, by repeat (with_reducible first | exact Below.refl _ _ | assumption | refine Bel.alloc ?_ _ | refine Bel.step (by assumption) ?_ | refine Below.drew ?_ | refine Bel.drewN ?_ _ | refine Below.setCell ?_ (by first | exact Nat.le_refl _ | omega | (simp; done) | (simp; omega)) _)⟩
      · have h3' : inB e 0 200 = false := by simpa using h3
        have HV := Lib.hid (show clC C e true = 2 by simp [clC, h1, h3'])
        clear h3
        go_enter Tryz.func149, Tryz.ntmps149
        go_wp2_with fail
        go_at_call 54; refine (IsChart_S _ _ _ hn hs _ (Ints.alloc _ (Ints.alloc _ (Ints.alloc _ hA)))).mono ?_; rintro e w1 ⟨rfl, hb1⟩; obtain ⟨hc1, hf1, hz1⟩ := bel hb1; (try simp only [World.size_drew, World.cell?_drew, World.frozen?_drew, World.heap_drewN, World.cell?_drewN, World.frozen?_drewN] at hc1 hf1 hz1); (try have hl1 : w.heap.size < w1.heap.size := zl hb1); (try have hm1 : w.heap.size + 1 < w1.heap.size := zl hb1); (try have hn1 : w.heap.size + 1 + 1 < w1.heap.size := zl hb1); (try have hp1 : b < w1.heap.size := zl hb1); (try have ho1 : b' < w1.heap.size := by (have hq := hb1.size; (try simp at hq); omega))
        go_wp2_with fail
        go_at_call 74; refine (l02Two_c _ _ _ _ _).mono ?_; rintro e w2 ⟨rfl, hb2⟩; obtain ⟨hc2, hf2, hz2⟩ := bel hb2; (try simp only [World.size_drew, World.cell?_drew, World.frozen?_drew, World.heap_drewN, World.cell?_drewN, World.frozen?_drewN] at hc2 hf2 hz2); (try have hl2 : w.heap.size < w2.heap.size := zl hb2); (try have hm2 : w.heap.size + 1 < w2.heap.size := zl hb2); (try have hn2 : w.heap.size + 1 + 1 < w2.heap.size := zl hb2); (try have hp2 : b < w2.heap.size := zl hb2); (try have ho2 : b' < w2.heap.size := by (have hq := hb2.size; (try simp at hq); omega))
        rw [← H2.out]
        go_wp2_with (first | (go_at_call 55; refine (l01In_c _ _ _ _).mono ?_; rintro e w' ⟨rfl, rfl⟩))
        go_ret
        exact ⟨ret_int HV.out.symm, by repeat (with_reducible first | exact Below.refl _ _ | assumption | refine Bel.alloc ?_ _ | refine Bel.step (by assumption) ?_ | refine Below.drew ?_ | refine Bel.drewN ?_ _ | refine Below.setCell ?_ (by first | exact Nat.le_refl _ | omega | (simp; done) | (simp; omega)) _)⟩
  · have h1' : okCh C = false := by simpa using h1
    have HV := Lib.hid (show clC C e ok = 1 by simp [clC, h1'])
    clear h1
    go_enter Tryz.func149, Tryz.ntmps149
    go_wp2_with fail
    go_at_call 54; refine (IsChart_S _ _ _ hn hs _ (Ints.alloc _ (Ints.alloc _ (Ints.alloc _ hA)))).mono ?_; rintro e w1 ⟨rfl, hb1⟩; obtain ⟨hc1, hf1, hz1⟩ := bel hb1; (try simp only [World.size_drew, World.cell?_drew, World.frozen?_drew, World.heap_drewN, World.cell?_drewN, World.frozen?_drewN] at hc1 hf1 hz1); (try have hl1 : w.heap.size < w1.heap.size := zl hb1); (try have hm1 : w.heap.size + 1 < w1.heap.size := zl hb1); (try have hn1 : w.heap.size + 1 + 1 < w1.heap.size := zl hb1); (try have hp1 : b < w1.heap.size := zl hb1); (try have ho1 : b' < w1.heap.size := by (have hq := hb1.size; (try simp at hq); omega))
    go_wp2
    go_ret
    exact ⟨ret_int HV.out.symm, by repeat (with_reducible first | exact Below.refl _ _ | assumption | refine Bel.alloc ?_ _ | refine Bel.step (by assumption) ?_ | refine Below.drew ?_ | refine Bel.drewN ?_ _ | refine Below.setCell ?_ (by first | exact Nat.le_refl _ | omega | (simp; done) | (simp; omega)) _)⟩
theorem LineHeights_S (C : Ch) (A : Option Addr) (c : Nat) (ud ut vd vt : Int) (hn : C.zs.length ≤ 1048576) (hm : C.nm.size ≤ 1048576) (w : World) (hA : Ints w A C.zs) :
    Calls Tryz.prog 129 #[.agg #[.int .i64 C.dg, .int .i64 C.tn, .string C.nm, .slice A C.zs.length c, .int .i64 C.wd, .int .i64 C.lf, .int .i64 C.rt], .agg #[.int .i64 ud, .int .i64 ut], .agg #[.int .i64 vd, .int .i64 vt]] w fun r w' => r = .returned (.tuple #[.agg #[.int .i64 (lqL C ud ut vd vt), .int .i64 (lqH C ud ut vd vt)], .int .i64 (lqC C ud ut vd vt)]) ∧ Below w.heap.size w w' := by
  by_cases hk : clC C 0 (okF ud ut && okF vd vt) = 0
  · have HQ := Lib.hid (lq_0 hk)
    obtain ⟨h, hf, _⟩ := clC_0 hk
    simp only [Bool.and_eq_true] at hf
    have HK := Lib.hid hk
    clear hk
    go_enter Tryz.func129, Tryz.ntmps129
    go_wp2_with fail
    go_at_call 149; refine (l24Code_c _ _ _ _ _ _ _ _ hn hm _ (Ints.alloc _ (Ints.alloc _ (Ints.alloc _ (Ints.alloc _ hA))))).mono ?_; rintro e w1 ⟨rfl, hb1⟩; obtain ⟨hc1, hf1, hz1⟩ := bel hb1; (try simp only [World.size_drew, World.cell?_drew, World.frozen?_drew, World.heap_drewN, World.cell?_drewN, World.frozen?_drewN] at hc1 hf1 hz1); (try have hl1 : w.heap.size < w1.heap.size := zl hb1); (try have hm1 : w.heap.size + 1 < w1.heap.size := zl hb1); (try have hn1 : w.heap.size + 1 + 1 < w1.heap.size := zl hb1); (try have hp1 : b < w1.heap.size := zl hb1); (try have ho1 : b' < w1.heap.size := by (have hq := hb1.size; (try simp at hq); omega))
    rw [HK.out]
    go_wp2_with fail
    go_at_call 150; refine (l24Heights_c _ _ _ _ _ _ _ hn hm h hf.1 hf.2 _ (Ints.step hb1 (Ints.alloc _ (Ints.alloc _ (Ints.alloc _ (Ints.alloc _ hA)))))).mono ?_; rintro e w2 ⟨rfl, hb2⟩; obtain ⟨hc2, hf2, hz2⟩ := bel hb2; (try simp only [World.size_drew, World.cell?_drew, World.frozen?_drew, World.heap_drewN, World.cell?_drewN, World.frozen?_drewN] at hc2 hf2 hz2); (try have hl2 : w.heap.size < w2.heap.size := zl hb2); (try have hm2 : w.heap.size + 1 < w2.heap.size := zl hb2); (try have hn2 : w.heap.size + 1 + 1 < w2.heap.size := zl hb2); (try have hp2 : b < w2.heap.size := zl hb2); (try have ho2 : b' < w2.heap.size := by (have hq := hb2.size; (try simp at hq); omega))
    have l3 : w.heap.size + 1 + 1 + 1 < w1.heap.size := by have := hb1.size; simp at this; omega
    go_wp2
    refine bodyPost_ret (v := .tuple #[.agg #[.int .i64 (lhL C ud ut vd vt), .int .i64 (lhH C ud ut vd vt)], .int .i64 (lhC C ud ut vd vt)]) (by simp [results, Tryz.results129, go_sem, *]) rfl ⟨by rw [HQ.out.1, HQ.out.2.1, HQ.out.2.2], by repeat (with_reducible first | exact Below.refl _ _ | assumption | refine Bel.alloc ?_ _ | refine Bel.step (by assumption) ?_ | refine Below.drew ?_ | refine Bel.drewN ?_ _ | refine Below.setCell ?_ (by first | exact Nat.le_refl _ | omega | (simp; done) | (simp; omega)) _)⟩
  · have HQ := Lib.hid (lq_no hk)
    have b1 : (clC C 0 (okF ud ut && okF vd vt) != 0) = true := by simpa using hk
    clear hk
    go_enter Tryz.func129, Tryz.ntmps129
    go_wp2_with fail
    go_at_call 149; refine (l24Code_c _ _ _ _ _ _ _ _ hn hm _ (Ints.alloc _ (Ints.alloc _ (Ints.alloc _ (Ints.alloc _ hA))))).mono ?_; rintro e w1 ⟨rfl, hb1⟩; obtain ⟨hc1, hf1, hz1⟩ := bel hb1; (try simp only [World.size_drew, World.cell?_drew, World.frozen?_drew, World.heap_drewN, World.cell?_drewN, World.frozen?_drewN] at hc1 hf1 hz1); (try have hl1 : w.heap.size < w1.heap.size := zl hb1); (try have hm1 : w.heap.size + 1 < w1.heap.size := zl hb1); (try have hn1 : w.heap.size + 1 + 1 < w1.heap.size := zl hb1); (try have hp1 : b < w1.heap.size := zl hb1); (try have ho1 : b' < w1.heap.size := by (have hq := hb1.size; (try simp at hq); omega))
    have l3 : w.heap.size + 1 + 1 + 1 < w1.heap.size := by have := hb1.size; simp at this; omega
    go_wp2
    refine bodyPost_ret (v := .tuple #[.agg #[.int .i64 0, .int .i64 0], .int .i64 (clC C 0 (okF ud ut && okF vd vt))]) (by simp [results, Tryz.results129, go_sem, *]) rfl ⟨by rw [HQ.out.1, HQ.out.2.1, HQ.out.2.2], by repeat (with_reducible first | exact Below.refl _ _ | assumption | refine Bel.alloc ?_ _ | refine Bel.step (by assumption) ?_ | refine Below.drew ?_ | refine Bel.drewN ?_ _ | refine Below.setCell ?_ (by first | exact Nat.le_refl _ | omega | (simp; done) | (simp; omega)) _)⟩
end Go.Proofs.YtpmcgicopogbhaaGreat
