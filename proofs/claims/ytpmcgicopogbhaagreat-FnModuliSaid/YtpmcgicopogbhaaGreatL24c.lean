/- Chapter 24: readings of a chart. Conditions: as stated at each contract. -/
import Derived.Test.YtpmcgicopogbhaaGreatProg
import Derived.Test.YtpmcgicopogbhaaGreatBase
import Derived.Test.YtpmcgicopogbhaaGreatZy
import Derived.Test.YtpmcgicopogbhaaGreatL01
import Derived.Test.YtpmcgicopogbhaaGreatCp
import Derived.Test.YtpmcgicopogbhaaGreatL18
import Derived.Test.YtpmcgicopogbhaaGreatL23
import Derived.Test.YtpmcgicopogbhaaGreatL03
import Derived.Test.YtpmcgicopogbhaaGreatL23d
import Derived.Test.YtpmcgicopogbhaaGreatL23e
import Derived.Test.YtpmcgicopogbhaaGreatL24
import Derived.Test.YtpmcgicopogbhaaGreatL24b
import Derived.WalkKit
import Derived.WalkSpells
import Derived.WalkLawsBesides
import Derived.Lib.Hide
import Derived.Deep.QuietTactic
import Derived.BigQuiet
import Derived.Deep.Draws
import Derived.Deep.RegionHeld3
namespace Go.Proofs.YtpmcgicopogbhaaGreat
set_option linter.unusedSimpArgs false
open Go.RowKit
set_option linter.unusedVariables false
theorem rd_0 {C : Ch} {ud ut vd vt e : Int} (h : lhC C ud ut vd vt = 0) : rdL C ud ut vd vt e = rdX C ud ut vd vt e + fgLo C.dg C.tn ∧ rdH C ud ut vd vt e = rdY C ud ut vd vt e + fgHi C.dg C.tn := by simp [rdL, rdH, h]
theorem rd_3 {C : Ch} {ud ut vd vt e : Int} (h : lhC C ud ut vd vt ≠ 0) : lhC C ud ut vd vt = 3 ∧ rdL C ud ut vd vt e = 0 ∧ rdH C ud ut vd vt e = 0 ∧ lhL C ud ut vd vt = 0 ∧ lhH C ud ut vd vt = 0 := by
  have : lhC C ud ut vd vt = 3 := by unfold lhC at *; split at h <;> simp_all
  exact ⟨this, by simp [rdL, this], by simp [rdH, this], by simp [lhL, this], by simp [lhH, this]⟩
set_option maxHeartbeats 2000000 in
theorem l24Read_c (C : Ch) (A : Option Addr) (c : Nat) (ud ut vd vt e : Int) (hn : C.zs.length ≤ 1048576) (hm : C.nm.size ≤ 1048576) (h : okCh C = true) (hu : okF ud ut = true) (hv : okF vd vt = true) (h1 : 0 ≤ e) (h2 : e ≤ 200) (w : World) (hA : Ints w A C.zs) :
    Calls Tryz.prog 163 #[.agg #[.int .i64 C.dg, .int .i64 C.tn, .string C.nm, .slice A C.zs.length c, .int .i64 C.wd, .int .i64 C.lf, .int .i64 C.rt], .agg #[.int .i64 ud, .int .i64 ut], .agg #[.int .i64 vd, .int .i64 vt], .int .i64 e] w fun r w' => r = .returned (.tuple #[.agg #[.int .i64 (rdL C ud ut vd vt e), .int .i64 (rdH C ud ut vd vt e)], .int .i64 (lhC C ud ut vd vt)]) ∧ Below w.heap.size w w' := by
  by_cases k : lhC C ud ut vd vt = 0
  · have HV := Lib.hid (rd_0 (e := e) k)
    have HX := Lib.hid (show rdX C ud ut vd vt e = Fl ((lhL C ud ut vd vt - e) * (1048576 * (C.lf + C.rt))) (C.lf * C.rt) ∧ rdY C ud ut vd vt e = Cl ((lhH C ud ut vd vt + e) * (1048576 * (C.lf + C.rt))) (C.lf * C.rt) from ⟨rfl, rfl⟩)
    obtain ⟨⟨s1, s2⟩, ⟨t1, t2⟩, ⟨m1, m2⟩, ⟨m3, m4⟩, ⟨m5, m6⟩, m7, m8⟩ := rd_wr (e := e) h k h1 h2
    obtain ⟨l1, l2, l3, l4⟩ := lh_bd h k
    rw [HX.out.1] at m5 m6
    rw [HX.out.2] at m7 m8
    obtain ⟨⟨d1, d2, d3, d4⟩, _, _, ⟨a1, a2⟩, ⟨a3, a4⟩, _, _⟩ := okCh_iff h
    obtain ⟨g1, g2, g3, g4⟩ := fg_bd d1 d2 (by omega) (by omega : C.tn ≤ 40)
    have HK := Lib.hid k
    clear k
    have e1 : IntKind.i64.wrap (C.lf * C.rt) = C.lf * C.rt := wr64 (by omega) (by omega)
    have e2 : IntKind.i64.wrap ((lhL C ud ut vd vt - e) * (1048576 * (C.lf + C.rt))) = (lhL C ud ut vd vt - e) * (1048576 * (C.lf + C.rt)) := wr64 (by omega) (by omega)
    have e3 : IntKind.i64.wrap ((lhH C ud ut vd vt + e) * (1048576 * (C.lf + C.rt))) = (lhH C ud ut vd vt + e) * (1048576 * (C.lf + C.rt)) := wr64 (by omega) (by omega)
    have e4 : IntKind.i64.wrap (C.lf + C.rt) = C.lf + C.rt := wr64 (by omega) (by omega)
    have e5 : IntKind.i64.wrap (1048576 * (C.lf + C.rt)) = 1048576 * (C.lf + C.rt) := wr64 (by omega) (by omega)
    have e6 : IntKind.i64.wrap (lhL C ud ut vd vt - e) = lhL C ud ut vd vt - e := wr64 (by omega) (by omega)
    have e7 : IntKind.i64.wrap (lhH C ud ut vd vt + e) = lhH C ud ut vd vt + e := wr64 (by omega) (by omega)
    go_enter Tryz.func163, Tryz.ntmps163
    go_wp2_with fail
    go_at_call 150; refine (l24Heights_c _ _ _ _ _ _ _ hn hm h hu hv _ (Ints.alloc _ (Ints.alloc _ (Ints.alloc _ (Ints.alloc _ hA))))).mono ?_; rintro e w1 ⟨rfl, hb1⟩; obtain ⟨hc1, hf1, hz1⟩ := bel hb1; (try simp only [World.size_drew, World.cell?_drew, World.frozen?_drew, World.heap_drewN, World.cell?_drewN, World.frozen?_drewN] at hc1 hf1 hz1); (try have hl1 : w.heap.size < w1.heap.size := zl hb1); (try have hm1 : w.heap.size + 1 < w1.heap.size := zl hb1); (try have hn1 : w.heap.size + 1 + 1 < w1.heap.size := zl hb1); (try have hp1 : b < w1.heap.size := zl hb1); (try have ho1 : b' < w1.heap.size := by (have hq := hb1.size; (try simp at hq); omega))
    rw [HK.out]
    have q0 : w1.cell? ⟨w.heap.size, 0, none⟩ = some (.int .i64 C.dg) := by simp [go_sem, *]
    have q1 : w1.cell? ⟨w.heap.size, 1, none⟩ = some (.int .i64 C.tn) := by simp [go_sem, *]
    have q5 : w1.cell? ⟨w.heap.size, 5, none⟩ = some (.int .i64 C.lf) := by simp [go_sem, *]
    have q6 : w1.cell? ⟨w.heap.size, 6, none⟩ = some (.int .i64 C.rt) := by simp [go_sem, *]
    have l5 : w.heap.size + 1 + 1 + 1 < w1.heap.size := by have := hb1.size; simp at this; omega
    have r0 : w1.cell? ⟨w.heap.size + 1 + 1 + 1, 0, none⟩ = some (.int .i64 0) := by simp [go_sem, *]
    have r1 : w1.cell? ⟨w.heap.size + 1 + 1 + 1, 1, none⟩ = some (.int .i64 0) := by simp [go_sem, *]
    have f0 : w1.frozen? ⟨w.heap.size + 1 + 1 + 1, 0, none⟩ = false := by simp [go_sem, *]
    have f1 : w1.frozen? ⟨w.heap.size + 1 + 1 + 1, 1, none⟩ = false := by simp [go_sem, *]
    have hbel1 : Below w.heap.size w w1 := by repeat (with_reducible first | exact Below.refl _ _ | assumption | refine Bel.alloc ?_ _ | refine Bel.step (by assumption) ?_ | refine Below.drew ?_ | refine Bel.drewN ?_ _ | refine Below.setCell ?_ (by first | exact Nat.le_refl _ | omega | (simp; done) | (simp; omega)) _)
    have l6 : w.heap.size < w1.heap.size := by omega
    clear hb1 hc1 hf1 hz1
    go_wp2
    go_quiet (fail)
    go_wp2
    generalize hV : (w1.alloc (.cells #[.int .i64 (lhL C ud ut vd vt), .int .i64 (lhH C ud ut vd vt)] 92)).drewN nq = V
    have hbV : Below w1.heap.size w1 V := by rw [← hV]; repeat (with_reducible first | exact Below.refl _ _ | assumption | refine Bel.alloc ?_ _ | refine Bel.step (by assumption) ?_ | refine Below.drew ?_ | refine Bel.drewN ?_ _ | refine Below.setCell ?_ (by first | exact Nat.le_refl _ | omega | (simp; done) | (simp; omega)) _)
    have y0 : V.cell? ⟨w1.heap.size, 0, none⟩ = some (.int .i64 (lhL C ud ut vd vt)) := by rw [← hV]; simp [go_sem]
    have y1 : V.cell? ⟨w1.heap.size, 1, none⟩ = some (.int .i64 (lhH C ud ut vd vt)) := by rw [← hV]; simp [go_sem]
    have y2 : w1.heap.size < V.heap.size := by rw [← hV]; simp [go_sem]
    obtain ⟨hcV, hfV, hzV⟩ := bel hbV
    have hbelV := Bel.step hbV hbel1
    have q0 := (hcV _ _ l6).trans q0
    have q1 := (hcV _ _ l6).trans q1
    have r0 := (hcV _ _ l5).trans r0
    have r1 := (hcV _ _ l5).trans r1
    have f0 := (hfV _ _ l5).trans f0
    have f1 := (hfV _ _ l5).trans f1
    have l6' := hzV _ l6
    have l5' := hzV _ l5
    have nr : w.heap.size + 1 + 1 + 1 ≠ w1.heap.size := by omega
    have nr' : w1.heap.size ≠ w.heap.size + 1 + 1 + 1 := by omega
    clear hV hbV hcV hfV hzV q5 q6
    generalize w1.heap.size = X at *
    generalize 1048576 * (C.lf + C.rt) = N at *
    generalize C.lf * C.rt = D at *
    generalize lhL C ud ut vd vt = L at *
    generalize lhH C ud ut vd vt = H at *
    go_region_held3 (fun w' => w'.cell? ⟨X, 0, none⟩ = some (.int .i64 L) ∧ w'.cell? ⟨X, 1, none⟩ = some (.int .i64 H)) (simp [go_sem, *])
        (first | (go_at_call 135; refine (l01Floor_c _ _ (by omega) (by omega) (by omega) (by omega) (by omega) _).mono ?_; rintro e w' ⟨rfl, rfl⟩; (try have yyxX : X < wx.heap.size := hzx _ (by first | assumption | (simp; done) | (simp; omega)))) | (go_at_call 99; refine (l01Ceil_c _ _ (by omega) (by omega) (by omega) (by omega) (by omega) _).mono ?_; rintro e w' ⟨rfl, rfl⟩; (try have yyxX : X < wx.heap.size := hzx _ (by first | assumption | (simp; done) | (simp; omega)))))
    all_goals
      go_wp2
      generalize hU : (V.alloc (.cells #[.int .i64 (Fl ((L - e) * N) D), .int .i64 (Cl ((H + e) * N) D)] 92)).drew = U
      have hbU : Below V.heap.size V U := by rw [← hU]; repeat (with_reducible first | exact Below.refl _ _ | assumption | refine Bel.alloc ?_ _ | refine Bel.step (by assumption) ?_ | refine Below.drew ?_ | refine Bel.drewN ?_ _ | refine Below.setCell ?_ (by first | exact Nat.le_refl _ | omega | (simp; done) | (simp; omega)) _)
      have y0 : U.cell? ⟨V.heap.size, 0, none⟩ = some (.int .i64 (Fl ((L - e) * N) D)) := by rw [← hU]; simp [go_sem]
      have y1 : U.cell? ⟨V.heap.size, 1, none⟩ = some (.int .i64 (Cl ((H + e) * N) D)) := by rw [← hU]; simp [go_sem]
      have y2 : V.heap.size < U.heap.size := by rw [← hU]; simp [go_sem]
      obtain ⟨hcU, hfU, hzU⟩ := bel hbU
      have hbelU := Bel.step hbU hbelV
      have q0 := (hcU _ _ l6').trans q0
      have q1 := (hcU _ _ l6').trans q1
      have r0 := (hcU _ _ l5').trans r0
      have r1 := (hcU _ _ l5').trans r1
      have f0 := (hfU _ _ l5').trans f0
      have f1 := (hfU _ _ l5').trans f1
      have nv : w.heap.size + 1 + 1 + 1 ≠ V.heap.size := by omega
      have nv' : V.heap.size ≠ w.heap.size + 1 + 1 + 1 := by omega
      have l6 := hzU _ l6'
      have l5 := hzU _ l5'
      clear hU hbU hcU hfU hzU
      generalize V.heap.size = Y at *
      go_region_held3 (fun w' => w'.cell? ⟨w.heap.size, 0, none⟩ = some (.int .i64 C.dg) ∧ w'.cell? ⟨w.heap.size, 1, none⟩ = some (.int .i64 C.tn) ∧ w'.cell? ⟨Y, 0, none⟩ = some (.int .i64 (Fl ((L - e) * N) D)) ∧ w'.cell? ⟨Y, 1, none⟩ = some (.int .i64 (Cl ((H + e) * N) D))) (simp [go_sem, *])
          (first | (go_at_call 111; refine (l03Figure_c _ _ (by omega) (by omega) (by omega) (by omega) _).mono ?_; rintro e wa ⟨rfl, hba⟩; obtain ⟨hca, hfa, hza⟩ := bel hba; (try simp only [World.size_drew, World.cell?_drew, World.frozen?_drew, World.heap_drewN, World.cell?_drewN, World.frozen?_drewN] at hca hfa hza); (try have hla : w.heap.size < wa.heap.size := zl hba); (try have hma : w.heap.size + 1 < wa.heap.size := zl hba); (try have hna : w.heap.size + 1 + 1 < wa.heap.size := zl hba); (try have hpa : b < wa.heap.size := zl hba); (try have hoa : b' < wa.heap.size := by (have hq := hba.size; (try simp at hq); omega)); (try have yyaY : Y < wa.heap.size := hza _ (by first | assumption | (simp; done) | (simp; omega))); (try have yyar3 : w.heap.size + 1 + 1 + 1 < wa.heap.size := hza _ (by first | assumption | (simp; done) | (simp; omega)))) | (go_at_call 112; refine (l03Add_c _ _ _ _ (by omega) (by omega) (by omega) (by omega) (by omega) (by omega) (by omega) (by omega) _).mono ?_; rintro e wx ⟨rfl, hbx⟩; obtain ⟨hcx, hfx, hzx⟩ := bel hbx; (try simp only [World.size_drew, World.cell?_drew, World.frozen?_drew, World.heap_drewN, World.cell?_drewN, World.frozen?_drewN] at hcx hfx hzx); (try have hlx : w.heap.size < wx.heap.size := zl hbx); (try have hmx : w.heap.size + 1 < wx.heap.size := zl hbx); (try have hnx : w.heap.size + 1 + 1 < wx.heap.size := zl hbx); (try have hpx : b < wx.heap.size := zl hbx); (try have hox : b' < wx.heap.size := by (have hq := hbx.size; (try simp at hq); omega)); (try have yyxY : Y < wx.heap.size := hzx _ (by first | assumption | (simp; done) | (simp; omega))); (try have yyxr3 : w.heap.size + 1 + 1 + 1 < wx.heap.size := hzx _ (by first | assumption | (simp; done) | (simp; omega)))))
      all_goals
        have r0x : wx.cell? ⟨w.heap.size + 1 + 1 + 1, 0, none⟩ = some (.int .i64 0) := by simp [go_sem, *]
        have r1x : wx.cell? ⟨w.heap.size + 1 + 1 + 1, 1, none⟩ = some (.int .i64 0) := by simp [go_sem, *]
        go_wp2
        refine bodyPost_ret (v := .tuple #[.agg #[.int .i64 (Fl ((L - e) * N) D + fgLo C.dg C.tn), .int .i64 (Cl ((H + e) * N) D + fgHi C.dg C.tn)], .int .i64 0]) (by simp [results, Tryz.results163, go_sem, *]) rfl ⟨by rw [HV.out.1, HV.out.2, HX.out.1, HX.out.2, HK.out], by repeat (with_reducible first | exact Below.refl _ _ | assumption | refine Bel.alloc ?_ _ | refine Bel.step (by assumption) ?_ | refine Below.drew ?_ | refine Bel.drewN ?_ _ | refine Below.setCell ?_ (by first | exact Nat.le_refl _ | omega | (simp; done) | (simp; omega)) _)⟩
  · have HK := Lib.hid (rd_3 (e := e) k)
    clear k
    go_enter Tryz.func163, Tryz.ntmps163
    go_wp2_with fail
    go_at_call 150; refine (l24Heights_c _ _ _ _ _ _ _ hn hm h hu hv _ (Ints.alloc _ (Ints.alloc _ (Ints.alloc _ (Ints.alloc _ hA))))).mono ?_; rintro e w1 ⟨rfl, hb1⟩; obtain ⟨hc1, hf1, hz1⟩ := bel hb1; (try simp only [World.size_drew, World.cell?_drew, World.frozen?_drew, World.heap_drewN, World.cell?_drewN, World.frozen?_drewN] at hc1 hf1 hz1); (try have hl1 : w.heap.size < w1.heap.size := zl hb1); (try have hm1 : w.heap.size + 1 < w1.heap.size := zl hb1); (try have hn1 : w.heap.size + 1 + 1 < w1.heap.size := zl hb1); (try have hp1 : b < w1.heap.size := zl hb1); (try have ho1 : b' < w1.heap.size := by (have hq := hb1.size; (try simp at hq); omega))
    rw [HK.out.1, HK.out.2.2.2.1, HK.out.2.2.2.2]
    have l5 : w.heap.size + 1 + 1 + 1 < w1.heap.size := by have := hb1.size; simp at this; omega
    go_wp2
    refine bodyPost_ret (v := .tuple #[.agg #[.int .i64 0, .int .i64 0], .int .i64 3]) (by simp [results, Tryz.results163, go_sem, *]) rfl ⟨by rw [HK.out.1, HK.out.2.1, HK.out.2.2.1], by repeat (with_reducible first | exact Below.refl _ _ | assumption | refine Bel.alloc ?_ _ | refine Bel.step (by assumption) ?_ | refine Below.drew ?_ | refine Bel.drewN ?_ _ | refine Below.setCell ?_ (by first | exact Nat.le_refl _ | omega | (simp; done) | (simp; omega)) _)⟩
set_option maxHeartbeats 2000000 in
theorem readChart_c (C : Ch) (A : Option Addr) (c : Nat) (ud ut vd vt e : Int) (hn : C.zs.length ≤ 1048576) (hm : C.nm.size ≤ 1048576) (h : okCh C = true) (hu : okF ud ut = true) (hv : okF vd vt = true) (h1 : 0 ≤ e) (h2 : e ≤ 200) (w : World) (hA : Ints w A C.zs) :
    Calls Tryz.prog 148 #[.agg #[.int .i64 C.dg, .int .i64 C.tn, .string C.nm, .slice A C.zs.length c, .int .i64 C.wd, .int .i64 C.lf, .int .i64 C.rt], .agg #[.int .i64 ud, .int .i64 ut], .agg #[.int .i64 vd, .int .i64 vt], .int .i64 e] w fun r w' => r = .returned (.tuple #[.agg #[.int .i64 (rdL C ud ut vd vt e), .int .i64 (rdH C ud ut vd vt e)], .int .i64 (lhC C ud ut vd vt)]) ∧ Below w.heap.size w w' := by
  by_cases k : lhC C ud ut vd vt = 0
  · have HV := Lib.hid (rd_0 (e := e) k)
    have HX := Lib.hid (show rdX C ud ut vd vt e = Fl ((lhL C ud ut vd vt - e) * (1048576 * (C.lf + C.rt))) (C.lf * C.rt) ∧ rdY C ud ut vd vt e = Cl ((lhH C ud ut vd vt + e) * (1048576 * (C.lf + C.rt))) (C.lf * C.rt) from ⟨rfl, rfl⟩)
    obtain ⟨⟨s1, s2⟩, ⟨t1, t2⟩, ⟨m1, m2⟩, ⟨m3, m4⟩, ⟨m5, m6⟩, m7, m8⟩ := rd_wr (e := e) h k h1 h2
    obtain ⟨l1, l2, l3, l4⟩ := lh_bd h k
    rw [HX.out.1] at m5 m6
    rw [HX.out.2] at m7 m8
    obtain ⟨⟨d1, d2, d3, d4⟩, _, _, ⟨a1, a2⟩, ⟨a3, a4⟩, _, _⟩ := okCh_iff h
    obtain ⟨g1, g2, g3, g4⟩ := fg_bd d1 d2 (by omega) (by omega : C.tn ≤ 40)
    have HK := Lib.hid k
    clear k
    have e1 : IntKind.i64.wrap (C.lf * C.rt) = C.lf * C.rt := wr64 (by omega) (by omega)
    have e2 : IntKind.i64.wrap ((lhL C ud ut vd vt - e) * (1048576 * (C.lf + C.rt))) = (lhL C ud ut vd vt - e) * (1048576 * (C.lf + C.rt)) := wr64 (by omega) (by omega)
    have e3 : IntKind.i64.wrap ((lhH C ud ut vd vt + e) * (1048576 * (C.lf + C.rt))) = (lhH C ud ut vd vt + e) * (1048576 * (C.lf + C.rt)) := wr64 (by omega) (by omega)
    have e4 : IntKind.i64.wrap (C.lf + C.rt) = C.lf + C.rt := wr64 (by omega) (by omega)
    have e5 : IntKind.i64.wrap (1048576 * (C.lf + C.rt)) = 1048576 * (C.lf + C.rt) := wr64 (by omega) (by omega)
    have e6 : IntKind.i64.wrap (lhL C ud ut vd vt - e) = lhL C ud ut vd vt - e := wr64 (by omega) (by omega)
    have e7 : IntKind.i64.wrap (lhH C ud ut vd vt + e) = lhH C ud ut vd vt + e := wr64 (by omega) (by omega)
    go_enter Tryz.func148, Tryz.ntmps148
    go_wp2_with fail
    go_at_call 124; refine (lineHeights_c _ _ _ _ _ _ _ hn hm h hu hv _ (Ints.alloc _ (Ints.alloc _ (Ints.alloc _ (Ints.alloc _ hA))))).mono ?_; rintro e w1 ⟨rfl, hb1⟩; obtain ⟨hc1, hf1, hz1⟩ := bel hb1; (try simp only [World.size_drew, World.cell?_drew, World.frozen?_drew, World.heap_drewN, World.cell?_drewN, World.frozen?_drewN] at hc1 hf1 hz1); (try have hl1 : w.heap.size < w1.heap.size := zl hb1); (try have hm1 : w.heap.size + 1 < w1.heap.size := zl hb1); (try have hn1 : w.heap.size + 1 + 1 < w1.heap.size := zl hb1); (try have hp1 : b < w1.heap.size := zl hb1); (try have ho1 : b' < w1.heap.size := by (have hq := hb1.size; (try simp at hq); omega))
    rw [HK.out]
    have q0 : w1.cell? ⟨w.heap.size, 0, none⟩ = some (.int .i64 C.dg) := by simp [go_sem, *]
    have q1 : w1.cell? ⟨w.heap.size, 1, none⟩ = some (.int .i64 C.tn) := by simp [go_sem, *]
    have q5 : w1.cell? ⟨w.heap.size, 5, none⟩ = some (.int .i64 C.lf) := by simp [go_sem, *]
    have q6 : w1.cell? ⟨w.heap.size, 6, none⟩ = some (.int .i64 C.rt) := by simp [go_sem, *]
    have l5 : w.heap.size + 1 + 1 + 1 < w1.heap.size := by have := hb1.size; simp at this; omega
    have r0 : w1.cell? ⟨w.heap.size + 1 + 1 + 1, 0, none⟩ = some (.int .i64 0) := by simp [go_sem, *]
    have r1 : w1.cell? ⟨w.heap.size + 1 + 1 + 1, 1, none⟩ = some (.int .i64 0) := by simp [go_sem, *]
    have f0 : w1.frozen? ⟨w.heap.size + 1 + 1 + 1, 0, none⟩ = false := by simp [go_sem, *]
    have f1 : w1.frozen? ⟨w.heap.size + 1 + 1 + 1, 1, none⟩ = false := by simp [go_sem, *]
    have hbel1 : Below w.heap.size w w1 := by repeat (with_reducible first | exact Below.refl _ _ | assumption | refine Bel.alloc ?_ _ | refine Bel.step (by assumption) ?_ | refine Below.drew ?_ | refine Bel.drewN ?_ _ | refine Below.setCell ?_ (by first | exact Nat.le_refl _ | omega | (simp; done) | (simp; omega)) _)
    have l6 : w.heap.size < w1.heap.size := by omega
    clear hb1 hc1 hf1 hz1
    go_wp2
    go_quiet (fail)
    go_wp2
    generalize hV : (w1.alloc (.cells #[.int .i64 (lhL C ud ut vd vt), .int .i64 (lhH C ud ut vd vt)] 92)).drewN nq = V
    have hbV : Below w1.heap.size w1 V := by rw [← hV]; repeat (with_reducible first | exact Below.refl _ _ | assumption | refine Bel.alloc ?_ _ | refine Bel.step (by assumption) ?_ | refine Below.drew ?_ | refine Bel.drewN ?_ _ | refine Below.setCell ?_ (by first | exact Nat.le_refl _ | omega | (simp; done) | (simp; omega)) _)
    have y0 : V.cell? ⟨w1.heap.size, 0, none⟩ = some (.int .i64 (lhL C ud ut vd vt)) := by rw [← hV]; simp [go_sem]
    have y1 : V.cell? ⟨w1.heap.size, 1, none⟩ = some (.int .i64 (lhH C ud ut vd vt)) := by rw [← hV]; simp [go_sem]
    have y2 : w1.heap.size < V.heap.size := by rw [← hV]; simp [go_sem]
    obtain ⟨hcV, hfV, hzV⟩ := bel hbV
    have hbelV := Bel.step hbV hbel1
    have q0 := (hcV _ _ l6).trans q0
    have q1 := (hcV _ _ l6).trans q1
    have r0 := (hcV _ _ l5).trans r0
    have r1 := (hcV _ _ l5).trans r1
    have f0 := (hfV _ _ l5).trans f0
    have f1 := (hfV _ _ l5).trans f1
    have l6' := hzV _ l6
    have l5' := hzV _ l5
    have nr : w.heap.size + 1 + 1 + 1 ≠ w1.heap.size := by omega
    have nr' : w1.heap.size ≠ w.heap.size + 1 + 1 + 1 := by omega
    clear hV hbV hcV hfV hzV q5 q6
    generalize w1.heap.size = X at *
    generalize 1048576 * (C.lf + C.rt) = N at *
    generalize C.lf * C.rt = D at *
    generalize lhL C ud ut vd vt = L at *
    generalize lhH C ud ut vd vt = H at *
    go_region_held3 (fun w' => w'.cell? ⟨w.heap.size, 0, none⟩ = some (.int .i64 C.dg) ∧ w'.cell? ⟨w.heap.size, 1, none⟩ = some (.int .i64 C.tn) ∧ w'.cell? ⟨X, 0, none⟩ = some (.int .i64 L) ∧ w'.cell? ⟨X, 1, none⟩ = some (.int .i64 H)) (simp [go_sem, *])
        (first | (go_at_call 134; refine (down_c _ _ (by omega) (by omega) (by omega) (by omega) (by omega) _).mono ?_; rintro e w' ⟨rfl, rfl⟩; (try have yyxX : X < wx.heap.size := hzx _ (by first | assumption | (simp; done) | (simp; omega))); (try have yyxr3 : w.heap.size + 1 + 1 + 1 < wx.heap.size := hzx _ (by first | assumption | (simp; done) | (simp; omega)))) | (go_at_call 98; refine (up_c _ _ (by omega) (by omega) (by omega) (by omega) (by omega) _).mono ?_; rintro e w' ⟨rfl, rfl⟩; (try have yyxX : X < wx.heap.size := hzx _ (by first | assumption | (simp; done) | (simp; omega))); (try have yyxr3 : w.heap.size + 1 + 1 + 1 < wx.heap.size := hzx _ (by first | assumption | (simp; done) | (simp; omega)))) | (go_at_call 108; refine (figureLog_c _ _ (by omega) (by omega) (by omega) (by omega) _).mono ?_; rintro e wa ⟨rfl, hba⟩; obtain ⟨hca, hfa, hza⟩ := bel hba; (try simp only [World.size_drew, World.cell?_drew, World.frozen?_drew, World.heap_drewN, World.cell?_drewN, World.frozen?_drewN] at hca hfa hza); (try have hla : w.heap.size < wa.heap.size := zl hba); (try have hma : w.heap.size + 1 < wa.heap.size := zl hba); (try have hna : w.heap.size + 1 + 1 < wa.heap.size := zl hba); (try have hpa : b < wa.heap.size := zl hba); (try have hoa : b' < wa.heap.size := by (have hq := hba.size; (try simp at hq); omega)); (try have yyaX : X < wa.heap.size := hza _ (by first | assumption | (simp; done) | (simp; omega))); (try have yyar3 : w.heap.size + 1 + 1 + 1 < wa.heap.size := hza _ (by first | assumption | (simp; done) | (simp; omega)))) | (go_at_call 109; refine (sum_c _ _ _ _ (by omega) (by omega) (by omega) (by omega) (by omega) (by omega) (by omega) (by omega) _).mono ?_; rintro e wx ⟨rfl, hbx⟩; obtain ⟨hcx, hfx, hzx⟩ := bel hbx; (try simp only [World.size_drew, World.cell?_drew, World.frozen?_drew, World.heap_drewN, World.cell?_drewN, World.frozen?_drewN] at hcx hfx hzx); (try have hlx : w.heap.size < wx.heap.size := zl hbx); (try have hmx : w.heap.size + 1 < wx.heap.size := zl hbx); (try have hnx : w.heap.size + 1 + 1 < wx.heap.size := zl hbx); (try have hpx : b < wx.heap.size := zl hbx); (try have hox : b' < wx.heap.size := by (have hq := hbx.size; (try simp at hq); omega)); (try have yyxX : X < wx.heap.size := hzx _ (by first | assumption | (simp; done) | (simp; omega))); (try have yyxr3 : w.heap.size + 1 + 1 + 1 < wx.heap.size := hzx _ (by first | assumption | (simp; done) | (simp; omega)))))
    all_goals
      have r0x : wx.cell? ⟨w.heap.size + 1 + 1 + 1, 0, none⟩ = some (.int .i64 0) := by simp [go_sem, *]
      have r1x : wx.cell? ⟨w.heap.size + 1 + 1 + 1, 1, none⟩ = some (.int .i64 0) := by simp [go_sem, *]
      go_wp2
      refine bodyPost_ret (v := .tuple #[.agg #[.int .i64 (Fl ((L - e) * N) D + fgLo C.dg C.tn), .int .i64 (Cl ((H + e) * N) D + fgHi C.dg C.tn)], .int .i64 0]) (by simp [results, Tryz.results148, go_sem, *]) rfl ⟨by rw [HV.out.1, HV.out.2, HX.out.1, HX.out.2, HK.out], by repeat (with_reducible first | exact Below.refl _ _ | assumption | refine Bel.alloc ?_ _ | refine Bel.step (by assumption) ?_ | refine Below.drew ?_ | refine Bel.drewN ?_ _ | refine Below.setCell ?_ (by first | exact Nat.le_refl _ | omega | (simp; done) | (simp; omega)) _)⟩
  · have HK := Lib.hid (rd_3 (e := e) k)
    clear k
    go_enter Tryz.func148, Tryz.ntmps148
    go_wp2_with fail
    go_at_call 124; refine (lineHeights_c _ _ _ _ _ _ _ hn hm h hu hv _ (Ints.alloc _ (Ints.alloc _ (Ints.alloc _ (Ints.alloc _ hA))))).mono ?_; rintro e w1 ⟨rfl, hb1⟩; obtain ⟨hc1, hf1, hz1⟩ := bel hb1; (try simp only [World.size_drew, World.cell?_drew, World.frozen?_drew, World.heap_drewN, World.cell?_drewN, World.frozen?_drewN] at hc1 hf1 hz1); (try have hl1 : w.heap.size < w1.heap.size := zl hb1); (try have hm1 : w.heap.size + 1 < w1.heap.size := zl hb1); (try have hn1 : w.heap.size + 1 + 1 < w1.heap.size := zl hb1); (try have hp1 : b < w1.heap.size := zl hb1); (try have ho1 : b' < w1.heap.size := by (have hq := hb1.size; (try simp at hq); omega))
    rw [HK.out.1, HK.out.2.2.2.1, HK.out.2.2.2.2]
    have l5 : w.heap.size + 1 + 1 + 1 < w1.heap.size := by have := hb1.size; simp at this; omega
    go_wp2
    refine bodyPost_ret (v := .tuple #[.agg #[.int .i64 0, .int .i64 0], .int .i64 3]) (by simp [results, Tryz.results148, go_sem, *]) rfl ⟨by rw [HK.out.1, HK.out.2.1, HK.out.2.2.1], by repeat (with_reducible first | exact Below.refl _ _ | assumption | refine Bel.alloc ?_ _ | refine Bel.step (by assumption) ?_ | refine Below.drew ?_ | refine Bel.drewN ?_ _ | refine Below.setCell ?_ (by first | exact Nat.le_refl _ | omega | (simp; done) | (simp; omega)) _)⟩
open Go.RowKit
set_option linter.unusedVariables false
def rqC (C : Ch) (ud ut vd vt e : Int) : Int := if clC C e (okF ud ut && okF vd vt) = 0 then lhC C ud ut vd vt else clC C e (okF ud ut && okF vd vt)
def rqL (C : Ch) (ud ut vd vt e : Int) : Int := if clC C e (okF ud ut && okF vd vt) = 0 then rdL C ud ut vd vt e else 0
def rqH (C : Ch) (ud ut vd vt e : Int) : Int := if clC C e (okF ud ut && okF vd vt) = 0 then rdH C ud ut vd vt e else 0
theorem rq_0 {C : Ch} {ud ut vd vt e : Int} (h : clC C e (okF ud ut && okF vd vt) = 0) : rqC C ud ut vd vt e = lhC C ud ut vd vt ∧ rqL C ud ut vd vt e = rdL C ud ut vd vt e ∧ rqH C ud ut vd vt e = rdH C ud ut vd vt e := by simp [rqC, rqL, rqH, h]
theorem rq_no {C : Ch} {ud ut vd vt e : Int} (h : clC C e (okF ud ut && okF vd vt) ≠ 0) : rqC C ud ut vd vt e = clC C e (okF ud ut && okF vd vt) ∧ rqL C ud ut vd vt e = 0 ∧ rqH C ud ut vd vt e = 0 := by simp [rqC, rqL, rqH, h]
theorem clC_e {C : Ch} {ud ut vd vt e : Int} (h : clC C e (okF ud ut && okF vd vt) = 0) : okCh C = true ∧ okF ud ut = true ∧ okF vd vt = true ∧ 0 ≤ e ∧ e ≤ 200 := by
  obtain ⟨h1, h2, h3⟩ := clC_0 h
  simp only [Bool.and_eq_true] at h2
  have := inB_iff.1 h3
  exact ⟨h1, h2.1, h2.2, this.1, this.2⟩
theorem ReadChart_S (C : Ch) (A : Option Addr) (c : Nat) (ud ut vd vt e : Int) (hn : C.zs.length ≤ 1048576) (hm : C.nm.size ≤ 1048576) (w : World) (hA : Ints w A C.zs) :
    Calls Tryz.prog 151 #[.agg #[.int .i64 C.dg, .int .i64 C.tn, .string C.nm, .slice A C.zs.length c, .int .i64 C.wd, .int .i64 C.lf, .int .i64 C.rt], .agg #[.int .i64 ud, .int .i64 ut], .agg #[.int .i64 vd, .int .i64 vt], .int .i64 e] w fun r w' => r = .returned (.tuple #[.agg #[.int .i64 (rqL C ud ut vd vt e), .int .i64 (rqH C ud ut vd vt e)], .int .i64 (rqC C ud ut vd vt e)]) ∧ Below w.heap.size w w' := by
  by_cases hk : clC C e (okF ud ut && okF vd vt) = 0
  · have HQ := Lib.hid (rq_0 hk)
    obtain ⟨h, hu, hv, h1, h2⟩ := clC_e hk
    have HK := Lib.hid hk
    clear hk
    go_enter Tryz.func151, Tryz.ntmps151
    go_wp2_with fail
    go_at_call 149; refine (l24Code_c _ _ _ _ _ _ _ _ hn hm _ (Ints.alloc _ (Ints.alloc _ (Ints.alloc _ (Ints.alloc _ hA))))).mono ?_; rintro e w1 ⟨rfl, hb1⟩; obtain ⟨hc1, hf1, hz1⟩ := bel hb1; (try simp only [World.size_drew, World.cell?_drew, World.frozen?_drew, World.heap_drewN, World.cell?_drewN, World.frozen?_drewN] at hc1 hf1 hz1); (try have hl1 : w.heap.size < w1.heap.size := zl hb1); (try have hm1 : w.heap.size + 1 < w1.heap.size := zl hb1); (try have hn1 : w.heap.size + 1 + 1 < w1.heap.size := zl hb1); (try have hp1 : b < w1.heap.size := zl hb1); (try have ho1 : b' < w1.heap.size := by (have hq := hb1.size; (try simp at hq); omega))
    rw [HK.out]
    go_wp2_with fail
    go_at_call 163; refine (l24Read_c _ _ _ _ _ _ _ _ hn hm h hu hv h1 h2 _ (Ints.step hb1 (Ints.alloc _ (Ints.alloc _ (Ints.alloc _ (Ints.alloc _ hA)))))).mono ?_; rintro e w2 ⟨rfl, hb2⟩; obtain ⟨hc2, hf2, hz2⟩ := bel hb2; (try simp only [World.size_drew, World.cell?_drew, World.frozen?_drew, World.heap_drewN, World.cell?_drewN, World.frozen?_drewN] at hc2 hf2 hz2); (try have hl2 : w.heap.size < w2.heap.size := zl hb2); (try have hm2 : w.heap.size + 1 < w2.heap.size := zl hb2); (try have hn2 : w.heap.size + 1 + 1 < w2.heap.size := zl hb2); (try have hp2 : b < w2.heap.size := zl hb2); (try have ho2 : b' < w2.heap.size := by (have hq := hb2.size; (try simp at hq); omega))
    have l3 : w.heap.size + 1 + 1 + 1 < w1.heap.size := by have := hb1.size; simp at this; omega
    go_wp2
    refine bodyPost_ret (v := .tuple #[.agg #[.int .i64 (rdL C ud ut vd vt e), .int .i64 (rdH C ud ut vd vt e)], .int .i64 (lhC C ud ut vd vt)]) (by simp [results, Tryz.results151, go_sem, *]) rfl ⟨by rw [HQ.out.1, HQ.out.2.1, HQ.out.2.2], by repeat (with_reducible first | exact Below.refl _ _ | assumption | refine Bel.alloc ?_ _ | refine Bel.step (by assumption) ?_ | refine Below.drew ?_ | refine Bel.drewN ?_ _ | refine Below.setCell ?_ (by first | exact Nat.le_refl _ | omega | (simp; done) | (simp; omega)) _)⟩
  · have HQ := Lib.hid (rq_no hk)
    have b1 : (clC C e (okF ud ut && okF vd vt) != 0) = true := by simpa using hk
    clear hk
    go_enter Tryz.func151, Tryz.ntmps151
    go_wp2_with fail
    go_at_call 149; refine (l24Code_c _ _ _ _ _ _ _ _ hn hm _ (Ints.alloc _ (Ints.alloc _ (Ints.alloc _ (Ints.alloc _ hA))))).mono ?_; rintro e w1 ⟨rfl, hb1⟩; obtain ⟨hc1, hf1, hz1⟩ := bel hb1; (try simp only [World.size_drew, World.cell?_drew, World.frozen?_drew, World.heap_drewN, World.cell?_drewN, World.frozen?_drewN] at hc1 hf1 hz1); (try have hl1 : w.heap.size < w1.heap.size := zl hb1); (try have hm1 : w.heap.size + 1 < w1.heap.size := zl hb1); (try have hn1 : w.heap.size + 1 + 1 < w1.heap.size := zl hb1); (try have hp1 : b < w1.heap.size := zl hb1); (try have ho1 : b' < w1.heap.size := by (have hq := hb1.size; (try simp at hq); omega))
    have l3 : w.heap.size + 1 + 1 + 1 < w1.heap.size := by have := hb1.size; simp at this; omega
    go_wp2
    refine bodyPost_ret (v := .tuple #[.agg #[.int .i64 0, .int .i64 0], .int .i64 (clC C e (okF ud ut && okF vd vt))]) (by simp [results, Tryz.results151, go_sem, *]) rfl ⟨by rw [HQ.out.1, HQ.out.2.1, HQ.out.2.2], by repeat (with_reducible first | exact Below.refl _ _ | assumption | refine Bel.alloc ?_ _ | refine Bel.step (by assumption) ?_ | refine Below.drew ?_ | refine Bel.drewN ?_ _ | refine Below.setCell ?_ (by first | exact Nat.le_refl _ | omega | (simp; done) | (simp; omega)) _)⟩
theorem rq_00 {C : Ch} {ud ut vd vt e : Int} (h : rqC C ud ut vd vt e = 0) : clC C e (okF ud ut && okF vd vt) = 0 ∧ lhC C ud ut vd vt = 0 := by
  by_cases hk : clC C e (okF ud ut && okF vd vt) = 0
  · rw [(rq_0 hk).1] at h
    exact ⟨hk, h⟩
  · rw [(rq_no hk).1] at h
    exact absurd h hk
theorem rq_z {C : Ch} {ud ut vd vt e : Int} (h : rqC C ud ut vd vt e ≠ 0) : rqL C ud ut vd vt e = 0 ∧ rqH C ud ut vd vt e = 0 := by
  by_cases hk : clC C e (okF ud ut && okF vd vt) = 0
  · obtain ⟨e1, e2, e3⟩ := rq_0 hk
    rw [e1] at h
    obtain ⟨_, e4, e5, _⟩ := rd_3 (e := e) h
    rw [e2, e3]; exact ⟨e4, e5⟩
  · exact (rq_no hk).2
end Go.Proofs.YtpmcgicopogbhaaGreat
