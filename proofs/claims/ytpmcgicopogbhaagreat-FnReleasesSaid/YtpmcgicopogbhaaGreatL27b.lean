/- Chapter 27: releases of the program. Conditions: as stated at each contract. -/
import Derived.Test.YtpmcgicopogbhaaGreatProg
import Derived.Test.YtpmcgicopogbhaaGreatBase
import Derived.Test.YtpmcgicopogbhaaGreatZy
import Derived.Test.YtpmcgicopogbhaaGreatRw
import Derived.Test.YtpmcgicopogbhaaGreatL01
import Derived.Test.YtpmcgicopogbhaaGreatCp
import Derived.Test.YtpmcgicopogbhaaGreatL18
import Derived.Test.YtpmcgicopogbhaaGreatL23
import Derived.Test.YtpmcgicopogbhaaGreatL03
import Derived.Test.YtpmcgicopogbhaaGreatL23d
import Derived.Test.YtpmcgicopogbhaaGreatL23e
import Derived.Test.YtpmcgicopogbhaaGreatL24
import Derived.Test.YtpmcgicopogbhaaGreatL24b
import Derived.Test.YtpmcgicopogbhaaGreatL23g
import Derived.Test.YtpmcgicopogbhaaGreatL23h
import Derived.Test.YtpmcgicopogbhaaGreatL27o
import Derived.Test.YtpmcgicopogbhaaGreatL27a
import Derived.WalkKit
import Derived.WalkSpells
import Derived.WalkLawsBesides
import Derived.Lib.Hide
import Derived.Deep.QuietTactic
import Derived.BigQuiet
import Derived.Deep.Draws
import Derived.Deep.RegionHeld3
namespace Go.Proofs.YtpmcgicopogbhaaGreat
set_option linter.unusedSimpArgs false
open Go.RowKit
set_option linter.unusedVariables false
theorem okRe_no2 {R : Re} (h : ((okF R.ad R.at_ && okF R.bd R.bt) && (okF R.cd R.ct && okF R.dd R.dt)) = false) : okRe R = false := by
  unfold okRe
  cases h1 : (okF R.ad R.at_ && okF R.bd R.bt)
  · simp
  · rw [h1] at h
    simp only [Bool.true_and] at h
    rw [h]; simp
theorem Prs.mk4 (w : World) (T : TypeId) (a b c d e f g h : Int) : Prs (w.alloc (.cells #[.int .i64 a, .int .i64 b, .int .i64 c, .int .i64 d, .int .i64 e, .int .i64 f, .int .i64 g, .int .i64 h] T)) (some ⟨w.heap.size, 0, none⟩) [(a, b), (c, d), (e, f), (g, h)] := by
  intro _
  refine ⟨_, _, rfl, by simp, fun i hi => ?_⟩
  match i, hi with
  | 0, _ => exact ⟨by simp [go_sem], by simp [go_sem]⟩
  | 1, _ => exact ⟨by simp [go_sem], by simp [go_sem]⟩
  | 2, _ => exact ⟨by simp [go_sem], by simp [go_sem]⟩
  | 3, _ => exact ⟨by simp [go_sem], by simp [go_sem]⟩
theorem okFs_four (a b c d e f g h : Int) : okFs [(a, b), (c, d), (e, f), (g, h)] = ((okF a b && okF c d) && (okF e f && okF g h)) := by simp [okFs, Bool.and_assoc]
set_option maxHeartbeats 2000000 in
theorem IsRelease_I (R : Re) (A : Option Addr) (c : Nat) (hn : R.ch.zs.length ≤ 1048576) (hm : R.ch.nm.size ≤ 1048576) (w : World) (hA : Ints w A R.ch.zs) :
    Calls Tryz.prog 21 #[.agg #[.int .i64 R.ch.dg, .int .i64 R.ch.tn, .string R.ch.nm, .slice A R.ch.zs.length c, .int .i64 R.ch.wd, .int .i64 R.ch.lf, .int .i64 R.ch.rt, .int .i64 R.ad, .int .i64 R.at_, .int .i64 R.bd, .int .i64 R.bt, .int .i64 R.cd, .int .i64 R.ct, .int .i64 R.dd, .int .i64 R.dt, .int .i64 R.ey, .int .i64 R.bo]] w fun e w' => e = .returned (.bool (okRe R)) ∧ Below w.heap.size w w' := by
  have HI := Lib.hid hA
  clear hA
  go_enter Tryz.func21, Tryz.ntmps21
  go_wp2_with fail
  go_at_call 69; refine (IsChart_I _ _ _ hn hm _ (by repeat (with_reducible first | exact HI.out | assumption | refine Ints.drew ?_ | refine Ints.drewN _ ?_ | refine Ints.alloc _ ?_ | refine Ints.step (by assumption) ?_))).mono ?_; rintro e w1 ⟨rfl, hb1⟩; obtain ⟨hc1, hf1, hz1⟩ := bel hb1; (try simp only [World.size_drew, World.cell?_drew, World.frozen?_drew, World.heap_drewN, World.cell?_drewN, World.frozen?_drewN] at hc1 hf1 hz1); (try have hl1 : w.heap.size < w1.heap.size := zl hb1); (try have hm1 : w.heap.size + 1 < w1.heap.size := zl hb1); (try have hn1 : w.heap.size + 1 + 1 < w1.heap.size := zl hb1); (try have hp1 : b < w1.heap.size := zl hb1); (try have ho1 : b' < w1.heap.size := by (have hq := hb1.size; (try simp at hq); omega))
  have hbel1 : Below w.heap.size w w1 := by repeat (with_reducible first | exact Below.refl _ _ | assumption | refine Bel.alloc ?_ _ | refine Bel.step (by assumption) ?_ | refine Below.drew ?_ | refine Bel.drewN ?_ _ | refine Below.setCell ?_ (by first | exact Nat.le_refl _ | omega | (simp; done) | (simp; omega)) _)
  have HB1 : Blk w1 w.heap.size 32 #[.int .i64 R.ch.dg, .int .i64 R.ch.tn, .string R.ch.nm, .slice A R.ch.zs.length c, .int .i64 R.ch.wd, .int .i64 R.ch.lf, .int .i64 R.ch.rt, .int .i64 R.ad, .int .i64 R.at_, .int .i64 R.bd, .int .i64 R.bt, .int .i64 R.cd, .int .i64 R.ct, .int .i64 R.dd, .int .i64 R.dt, .int .i64 R.ey, .int .i64 R.bo] := Blk.step hb1 (Blk.new _ _ _)
  clear hb1 hc1 hf1 hz1
  cases hx : okCh R.ch
  · have HX := Lib.hid hx
    clear hx HB1
    go_wp2
    go_ret
    exact ⟨ret_bool (by simp [okRe, HX.out]), by repeat (with_reducible first | exact Below.refl _ _ | assumption | refine Bel.alloc ?_ _ | refine Bel.step (by assumption) ?_ | refine Below.drew ?_ | refine Bel.drewN ?_ _ | refine Below.setCell ?_ (by first | exact Nat.le_refl _ | omega | (simp; done) | (simp; omega)) _)⟩
  have H1 := Lib.hid hx
  clear hx
  have p0 : w1.cell? ⟨w.heap.size, 0, none⟩ = some (.int .i64 R.ch.dg) := by rw [HB1.cell]; rfl
  have p1 : w1.cell? ⟨w.heap.size, 1, none⟩ = some (.int .i64 R.ch.tn) := by rw [HB1.cell]; rfl
  have p2 : w1.cell? ⟨w.heap.size, 2, none⟩ = some (.string R.ch.nm) := by rw [HB1.cell]; rfl
  have p3 : w1.cell? ⟨w.heap.size, 3, none⟩ = some (.slice A R.ch.zs.length c) := by rw [HB1.cell]; rfl
  have p4 : w1.cell? ⟨w.heap.size, 4, none⟩ = some (.int .i64 R.ch.wd) := by rw [HB1.cell]; rfl
  have p5 : w1.cell? ⟨w.heap.size, 5, none⟩ = some (.int .i64 R.ch.lf) := by rw [HB1.cell]; rfl
  have p6 : w1.cell? ⟨w.heap.size, 6, none⟩ = some (.int .i64 R.ch.rt) := by rw [HB1.cell]; rfl
  have p7 : w1.cell? ⟨w.heap.size, 7, none⟩ = some (.int .i64 R.ad) := by rw [HB1.cell]; rfl
  have p8 : w1.cell? ⟨w.heap.size, 8, none⟩ = some (.int .i64 R.at_) := by rw [HB1.cell]; rfl
  have p9 : w1.cell? ⟨w.heap.size, 9, none⟩ = some (.int .i64 R.bd) := by rw [HB1.cell]; rfl
  have p10 : w1.cell? ⟨w.heap.size, 10, none⟩ = some (.int .i64 R.bt) := by rw [HB1.cell]; rfl
  have p11 : w1.cell? ⟨w.heap.size, 11, none⟩ = some (.int .i64 R.cd) := by rw [HB1.cell]; rfl
  have p12 : w1.cell? ⟨w.heap.size, 12, none⟩ = some (.int .i64 R.ct) := by rw [HB1.cell]; rfl
  have p13 : w1.cell? ⟨w.heap.size, 13, none⟩ = some (.int .i64 R.dd) := by rw [HB1.cell]; rfl
  have p14 : w1.cell? ⟨w.heap.size, 14, none⟩ = some (.int .i64 R.dt) := by rw [HB1.cell]; rfl
  have p15 : w1.cell? ⟨w.heap.size, 15, none⟩ = some (.int .i64 R.ey) := by rw [HB1.cell]; rfl
  have p16 : w1.cell? ⟨w.heap.size, 16, none⟩ = some (.int .i64 R.bo) := by rw [HB1.cell]; rfl
  go_wp2_with fail
  go_at_call 70; refine (areFigures_c _ _ [(R.ad, R.at_), (R.bd, R.bt), (R.cd, R.ct), (R.dd, R.dt)] (by simp) _ (Prs.mk4 _ _ _ _ _ _ _ _ _ _)).mono ?_; rintro e w2 ⟨rfl, hb2⟩
  have HB2 : Blk w2 w.heap.size 32 #[.int .i64 R.ch.dg, .int .i64 R.ch.tn, .string R.ch.nm, .slice A R.ch.zs.length c, .int .i64 R.ch.wd, .int .i64 R.ch.lf, .int .i64 R.ch.rt, .int .i64 R.ad, .int .i64 R.at_, .int .i64 R.bd, .int .i64 R.bt, .int .i64 R.cd, .int .i64 R.ct, .int .i64 R.dd, .int .i64 R.dt, .int .i64 R.ey, .int .i64 R.bo] := Blk.step hb2 (Blk.alloc _ HB1)
  have hbel2 : Below w.heap.size w w2 := by repeat (with_reducible first | exact Below.refl _ _ | assumption | refine Bel.alloc ?_ _ | refine Bel.step (by assumption) ?_ | refine Below.drew ?_ | refine Bel.drewN ?_ _ | refine Below.setCell ?_ (by first | exact Nat.le_refl _ | omega | (simp; done) | (simp; omega)) _)
  rw [okFs_four]
  clear hb2 HB1 p0 p1 p2 p3 p4 p5 p6 p7 p8 p9 p10 p11 p12 p13 p14 p15 p16
  cases hx : ((okF R.ad R.at_ && okF R.bd R.bt) && (okF R.cd R.ct && okF R.dd R.dt))
  · have HX := Lib.hid (okRe_no2 (R := R) hx)
    clear hx HB2
    go_wp2
    go_ret
    exact ⟨ret_bool HX.out.symm, by repeat (with_reducible first | exact Below.refl _ _ | assumption | refine Bel.alloc ?_ _ | refine Bel.step (by assumption) ?_ | refine Below.drew ?_ | refine Bel.drewN ?_ _ | refine Below.setCell ?_ (by first | exact Nat.le_refl _ | omega | (simp; done) | (simp; omega)) _)⟩
  have H2 := Lib.hid (Bool.and_eq_true_iff.1 hx).1
  have H3 := Lib.hid (Bool.and_eq_true_iff.1 hx).2
  clear hx
  have p0 : w2.cell? ⟨w.heap.size, 0, none⟩ = some (.int .i64 R.ch.dg) := by rw [HB2.cell]; rfl
  have p1 : w2.cell? ⟨w.heap.size, 1, none⟩ = some (.int .i64 R.ch.tn) := by rw [HB2.cell]; rfl
  have p2 : w2.cell? ⟨w.heap.size, 2, none⟩ = some (.string R.ch.nm) := by rw [HB2.cell]; rfl
  have p3 : w2.cell? ⟨w.heap.size, 3, none⟩ = some (.slice A R.ch.zs.length c) := by rw [HB2.cell]; rfl
  have p4 : w2.cell? ⟨w.heap.size, 4, none⟩ = some (.int .i64 R.ch.wd) := by rw [HB2.cell]; rfl
  have p5 : w2.cell? ⟨w.heap.size, 5, none⟩ = some (.int .i64 R.ch.lf) := by rw [HB2.cell]; rfl
  have p6 : w2.cell? ⟨w.heap.size, 6, none⟩ = some (.int .i64 R.ch.rt) := by rw [HB2.cell]; rfl
  have p7 : w2.cell? ⟨w.heap.size, 7, none⟩ = some (.int .i64 R.ad) := by rw [HB2.cell]; rfl
  have p8 : w2.cell? ⟨w.heap.size, 8, none⟩ = some (.int .i64 R.at_) := by rw [HB2.cell]; rfl
  have p9 : w2.cell? ⟨w.heap.size, 9, none⟩ = some (.int .i64 R.bd) := by rw [HB2.cell]; rfl
  have p10 : w2.cell? ⟨w.heap.size, 10, none⟩ = some (.int .i64 R.bt) := by rw [HB2.cell]; rfl
  have p11 : w2.cell? ⟨w.heap.size, 11, none⟩ = some (.int .i64 R.cd) := by rw [HB2.cell]; rfl
  have p12 : w2.cell? ⟨w.heap.size, 12, none⟩ = some (.int .i64 R.ct) := by rw [HB2.cell]; rfl
  have p13 : w2.cell? ⟨w.heap.size, 13, none⟩ = some (.int .i64 R.dd) := by rw [HB2.cell]; rfl
  have p14 : w2.cell? ⟨w.heap.size, 14, none⟩ = some (.int .i64 R.dt) := by rw [HB2.cell]; rfl
  have p15 : w2.cell? ⟨w.heap.size, 15, none⟩ = some (.int .i64 R.ey) := by rw [HB2.cell]; rfl
  have p16 : w2.cell? ⟨w.heap.size, 16, none⟩ = some (.int .i64 R.bo) := by rw [HB2.cell]; rfl
  go_wp2_with fail
  go_at_call 71; refine (within_c _ _ _ _).mono ?_; rintro e w' ⟨rfl, rfl⟩
  cases hx : inB R.ey 0 200
  · have HX := Lib.hid hx
    clear hx HB2
    go_wp2
    go_ret
    exact ⟨ret_bool (by simp [okRe, HX.out]), by repeat (with_reducible first | exact Below.refl _ _ | assumption | refine Bel.alloc ?_ _ | refine Bel.step (by assumption) ?_ | refine Below.drew ?_ | refine Bel.drewN ?_ _ | refine Below.setCell ?_ (by first | exact Nat.le_refl _ | omega | (simp; done) | (simp; omega)) _)⟩
  have H4 := Lib.hid hx
  clear hx
  go_wp2_with fail
  go_at_call 71; refine (within_c _ _ _ _).mono ?_; rintro e w' ⟨rfl, rfl⟩
  cases hx : inB R.bo 0 1048576
  · have HX := Lib.hid hx
    clear hx HB2
    go_wp2
    go_ret
    exact ⟨ret_bool (by simp [okRe, HX.out]), by repeat (with_reducible first | exact Below.refl _ _ | assumption | refine Bel.alloc ?_ _ | refine Bel.step (by assumption) ?_ | refine Below.drew ?_ | refine Bel.drewN ?_ _ | refine Below.setCell ?_ (by first | exact Nat.le_refl _ | omega | (simp; done) | (simp; omega)) _)⟩
  have H5 := Lib.hid hx
  clear hx
  obtain ⟨h2a, h2b⟩ : okF R.ad R.at_ = true ∧ okF R.bd R.bt = true := by simpa using H2.out
  obtain ⟨h3a, h3b⟩ : okF R.cd R.ct = true ∧ okF R.dd R.dt = true := by simpa using H3.out
  have G2a := Lib.hid h2a
  have G2b := Lib.hid h2b
  have G3a := Lib.hid h3a
  have G3b := Lib.hid h3b
  clear h2a h2b h3a h3b
  go_wp2_with fail
  go_at_call 72; refine (compareFigures_c _ _ _ _ G2b.out G2a.out _).mono ?_; rintro e w6 ⟨rfl, hb6⟩; obtain ⟨hc6, hf6, hz6⟩ := bel hb6; (try simp only [World.size_drew, World.cell?_drew, World.frozen?_drew, World.heap_drewN, World.cell?_drewN, World.frozen?_drewN] at hc6 hf6 hz6); (try have hl6 : w.heap.size < w6.heap.size := zl hb6); (try have hm6 : w.heap.size + 1 < w6.heap.size := zl hb6); (try have hn6 : w.heap.size + 1 + 1 < w6.heap.size := zl hb6); (try have hp6 : b < w6.heap.size := zl hb6); (try have ho6 : b' < w6.heap.size := by (have hq := hb6.size; (try simp at hq); omega))
  have hbel6 : Below w.heap.size w w6 := by repeat (with_reducible first | exact Below.refl _ _ | assumption | refine Bel.alloc ?_ _ | refine Bel.step (by assumption) ?_ | refine Below.drew ?_ | refine Bel.drewN ?_ _ | refine Below.setCell ?_ (by first | exact Nat.le_refl _ | omega | (simp; done) | (simp; omega)) _)
  have HB6 : Blk w6 w.heap.size 32 #[.int .i64 R.ch.dg, .int .i64 R.ch.tn, .string R.ch.nm, .slice A R.ch.zs.length c, .int .i64 R.ch.wd, .int .i64 R.ch.lf, .int .i64 R.ch.rt, .int .i64 R.ad, .int .i64 R.at_, .int .i64 R.bd, .int .i64 R.bt, .int .i64 R.cd, .int .i64 R.ct, .int .i64 R.dd, .int .i64 R.dt, .int .i64 R.ey, .int .i64 R.bo] := Blk.step hb6 HB2
  clear hb6 hc6 hf6 hz6 HB2 p0 p1 p2 p3 p4 p5 p6 p7 p8 p9 p10 p11 p12 p13 p14 p15 p16
  cases hx : decide (fc R.bd R.bt R.ad R.at_ < 0)
  rotate_left
  · have HX := Lib.hid hx
    clear HB6
    go_wp2
    go_ret
    exact ⟨ret_bool (by simp [okRe, HX.out]), by repeat (with_reducible first | exact Below.refl _ _ | assumption | refine Bel.alloc ?_ _ | refine Bel.step (by assumption) ?_ | refine Below.drew ?_ | refine Bel.drewN ?_ _ | refine Below.setCell ?_ (by first | exact Nat.le_refl _ | omega | (simp; done) | (simp; omega)) _)⟩
  have H6 := Lib.hid hx
  have p0 : w6.cell? ⟨w.heap.size, 0, none⟩ = some (.int .i64 R.ch.dg) := by rw [HB6.cell]; rfl
  have p1 : w6.cell? ⟨w.heap.size, 1, none⟩ = some (.int .i64 R.ch.tn) := by rw [HB6.cell]; rfl
  have p2 : w6.cell? ⟨w.heap.size, 2, none⟩ = some (.string R.ch.nm) := by rw [HB6.cell]; rfl
  have p3 : w6.cell? ⟨w.heap.size, 3, none⟩ = some (.slice A R.ch.zs.length c) := by rw [HB6.cell]; rfl
  have p4 : w6.cell? ⟨w.heap.size, 4, none⟩ = some (.int .i64 R.ch.wd) := by rw [HB6.cell]; rfl
  have p5 : w6.cell? ⟨w.heap.size, 5, none⟩ = some (.int .i64 R.ch.lf) := by rw [HB6.cell]; rfl
  have p6 : w6.cell? ⟨w.heap.size, 6, none⟩ = some (.int .i64 R.ch.rt) := by rw [HB6.cell]; rfl
  have p7 : w6.cell? ⟨w.heap.size, 7, none⟩ = some (.int .i64 R.ad) := by rw [HB6.cell]; rfl
  have p8 : w6.cell? ⟨w.heap.size, 8, none⟩ = some (.int .i64 R.at_) := by rw [HB6.cell]; rfl
  have p9 : w6.cell? ⟨w.heap.size, 9, none⟩ = some (.int .i64 R.bd) := by rw [HB6.cell]; rfl
  have p10 : w6.cell? ⟨w.heap.size, 10, none⟩ = some (.int .i64 R.bt) := by rw [HB6.cell]; rfl
  have p11 : w6.cell? ⟨w.heap.size, 11, none⟩ = some (.int .i64 R.cd) := by rw [HB6.cell]; rfl
  have p12 : w6.cell? ⟨w.heap.size, 12, none⟩ = some (.int .i64 R.ct) := by rw [HB6.cell]; rfl
  have p13 : w6.cell? ⟨w.heap.size, 13, none⟩ = some (.int .i64 R.dd) := by rw [HB6.cell]; rfl
  have p14 : w6.cell? ⟨w.heap.size, 14, none⟩ = some (.int .i64 R.dt) := by rw [HB6.cell]; rfl
  have p15 : w6.cell? ⟨w.heap.size, 15, none⟩ = some (.int .i64 R.ey) := by rw [HB6.cell]; rfl
  have p16 : w6.cell? ⟨w.heap.size, 16, none⟩ = some (.int .i64 R.bo) := by rw [HB6.cell]; rfl
  go_wp2_with fail
  go_at_call 72; refine (compareFigures_c _ _ _ _ G3b.out G3a.out _).mono ?_; rintro e w7 ⟨rfl, hb7⟩; obtain ⟨hc7, hf7, hz7⟩ := bel hb7; (try simp only [World.size_drew, World.cell?_drew, World.frozen?_drew, World.heap_drewN, World.cell?_drewN, World.frozen?_drewN] at hc7 hf7 hz7); (try have hl7 : w.heap.size < w7.heap.size := zl hb7); (try have hm7 : w.heap.size + 1 < w7.heap.size := zl hb7); (try have hn7 : w.heap.size + 1 + 1 < w7.heap.size := zl hb7); (try have hp7 : b < w7.heap.size := zl hb7); (try have ho7 : b' < w7.heap.size := by (have hq := hb7.size; (try simp at hq); omega))
  have hbel7 : Below w.heap.size w w7 := by repeat (with_reducible first | exact Below.refl _ _ | assumption | refine Bel.alloc ?_ _ | refine Bel.step (by assumption) ?_ | refine Below.drew ?_ | refine Bel.drewN ?_ _ | refine Below.setCell ?_ (by first | exact Nat.le_refl _ | omega | (simp; done) | (simp; omega)) _)
  have HB7 : Blk w7 w.heap.size 32 #[.int .i64 R.ch.dg, .int .i64 R.ch.tn, .string R.ch.nm, .slice A R.ch.zs.length c, .int .i64 R.ch.wd, .int .i64 R.ch.lf, .int .i64 R.ch.rt, .int .i64 R.ad, .int .i64 R.at_, .int .i64 R.bd, .int .i64 R.bt, .int .i64 R.cd, .int .i64 R.ct, .int .i64 R.dd, .int .i64 R.dt, .int .i64 R.ey, .int .i64 R.bo] := Blk.step hb7 HB6
  clear hx hb7 hc7 hf7 hz7 HB6 p0 p1 p2 p3 p4 p5 p6 p7 p8 p9 p10 p11 p12 p13 p14 p15 p16
  cases hx : decide (fc R.dd R.dt R.cd R.ct < 0)
  rotate_left
  · have HX := Lib.hid hx
    clear HB7
    go_wp2
    go_ret
    exact ⟨ret_bool (by simp [okRe, HX.out]), by repeat (with_reducible first | exact Below.refl _ _ | assumption | refine Bel.alloc ?_ _ | refine Bel.step (by assumption) ?_ | refine Below.drew ?_ | refine Bel.drewN ?_ _ | refine Below.setCell ?_ (by first | exact Nat.le_refl _ | omega | (simp; done) | (simp; omega)) _)⟩
  have H7 := Lib.hid hx
  have HF0 := Lib.hid (show okFs [(R.ad, R.at_), (R.bd, R.bt)] = true by rw [okFs_two]; exact H2.out)
  have HF1 := Lib.hid (show okFs [(R.cd, R.ct), (R.dd, R.dt)] = true by rw [okFs_two]; exact H3.out)
  have p0 : w7.cell? ⟨w.heap.size, 0, none⟩ = some (.int .i64 R.ch.dg) := by rw [HB7.cell]; rfl
  have p1 : w7.cell? ⟨w.heap.size, 1, none⟩ = some (.int .i64 R.ch.tn) := by rw [HB7.cell]; rfl
  have p2 : w7.cell? ⟨w.heap.size, 2, none⟩ = some (.string R.ch.nm) := by rw [HB7.cell]; rfl
  have p3 : w7.cell? ⟨w.heap.size, 3, none⟩ = some (.slice A R.ch.zs.length c) := by rw [HB7.cell]; rfl
  have p4 : w7.cell? ⟨w.heap.size, 4, none⟩ = some (.int .i64 R.ch.wd) := by rw [HB7.cell]; rfl
  have p5 : w7.cell? ⟨w.heap.size, 5, none⟩ = some (.int .i64 R.ch.lf) := by rw [HB7.cell]; rfl
  have p6 : w7.cell? ⟨w.heap.size, 6, none⟩ = some (.int .i64 R.ch.rt) := by rw [HB7.cell]; rfl
  have p7 : w7.cell? ⟨w.heap.size, 7, none⟩ = some (.int .i64 R.ad) := by rw [HB7.cell]; rfl
  have p8 : w7.cell? ⟨w.heap.size, 8, none⟩ = some (.int .i64 R.at_) := by rw [HB7.cell]; rfl
  have p9 : w7.cell? ⟨w.heap.size, 9, none⟩ = some (.int .i64 R.bd) := by rw [HB7.cell]; rfl
  have p10 : w7.cell? ⟨w.heap.size, 10, none⟩ = some (.int .i64 R.bt) := by rw [HB7.cell]; rfl
  have p11 : w7.cell? ⟨w.heap.size, 11, none⟩ = some (.int .i64 R.cd) := by rw [HB7.cell]; rfl
  have p12 : w7.cell? ⟨w.heap.size, 12, none⟩ = some (.int .i64 R.ct) := by rw [HB7.cell]; rfl
  have p13 : w7.cell? ⟨w.heap.size, 13, none⟩ = some (.int .i64 R.dd) := by rw [HB7.cell]; rfl
  have p14 : w7.cell? ⟨w.heap.size, 14, none⟩ = some (.int .i64 R.dt) := by rw [HB7.cell]; rfl
  have p15 : w7.cell? ⟨w.heap.size, 15, none⟩ = some (.int .i64 R.ey) := by rw [HB7.cell]; rfl
  have p16 : w7.cell? ⟨w.heap.size, 16, none⟩ = some (.int .i64 R.bo) := by rw [HB7.cell]; rfl
  have HB7Y := Lib.hid HB7
  go_wp2_with fail
  clear hx
  go_at_call 73; refine (chartPoints_c R.ch A c 0 _ _ [(R.ad, R.at_), (R.bd, R.bt)] H1.out HF0.out rfl (by simp) _ (by repeat (with_reducible first | exact HI.out | assumption | refine Ints.drew ?_ | refine Ints.drewN _ ?_ | refine Ints.alloc _ ?_ | refine Ints.step (by assumption) ?_)) (Prs.mk2 _ _ _ _ _ _)).mono ?_; rintro e w8 ⟨v8, rfl, hO8, hb8⟩
  obtain ⟨hc8, hf8, hz8⟩ := bel hb8
  have HB8 : Blk w8 w.heap.size 32 #[.int .i64 R.ch.dg, .int .i64 R.ch.tn, .string R.ch.nm, .slice A R.ch.zs.length c, .int .i64 R.ch.wd, .int .i64 R.ch.lf, .int .i64 R.ch.rt, .int .i64 R.ad, .int .i64 R.at_, .int .i64 R.bd, .int .i64 R.bt, .int .i64 R.cd, .int .i64 R.ct, .int .i64 R.dd, .int .i64 R.dt, .int .i64 R.ey, .int .i64 R.bo] := (by repeat (with_reducible first | exact HB7Y.out | assumption | refine Blk.alloc _ ?_ | refine Blk.step (by assumption) ?_ | refine Blk.drew ?_ | refine Blk.drewN _ ?_))
  have hbel8 : Below w.heap.size w w8 := by repeat (with_reducible first | exact Below.refl _ _ | assumption | refine Bel.alloc ?_ _ | refine Bel.step (by assumption) ?_ | refine Below.drew ?_ | refine Bel.drewN ?_ _ | refine Below.setCell ?_ (by first | exact Nat.le_refl _ | omega | (simp; done) | (simp; omega)) _)
  clear hb8 hc8 hf8 hz8 HB7 HB7Y hO8 p0 p1 p2 p3 p4 p5 p6 p7 p8 p9 p10 p11 p12 p13 p14 p15 p16
  have p0 : w8.cell? ⟨w.heap.size, 0, none⟩ = some (.int .i64 R.ch.dg) := by rw [HB8.cell]; rfl
  have p1 : w8.cell? ⟨w.heap.size, 1, none⟩ = some (.int .i64 R.ch.tn) := by rw [HB8.cell]; rfl
  have p2 : w8.cell? ⟨w.heap.size, 2, none⟩ = some (.string R.ch.nm) := by rw [HB8.cell]; rfl
  have p3 : w8.cell? ⟨w.heap.size, 3, none⟩ = some (.slice A R.ch.zs.length c) := by rw [HB8.cell]; rfl
  have p4 : w8.cell? ⟨w.heap.size, 4, none⟩ = some (.int .i64 R.ch.wd) := by rw [HB8.cell]; rfl
  have p5 : w8.cell? ⟨w.heap.size, 5, none⟩ = some (.int .i64 R.ch.lf) := by rw [HB8.cell]; rfl
  have p6 : w8.cell? ⟨w.heap.size, 6, none⟩ = some (.int .i64 R.ch.rt) := by rw [HB8.cell]; rfl
  have p7 : w8.cell? ⟨w.heap.size, 7, none⟩ = some (.int .i64 R.ad) := by rw [HB8.cell]; rfl
  have p8 : w8.cell? ⟨w.heap.size, 8, none⟩ = some (.int .i64 R.at_) := by rw [HB8.cell]; rfl
  have p9 : w8.cell? ⟨w.heap.size, 9, none⟩ = some (.int .i64 R.bd) := by rw [HB8.cell]; rfl
  have p10 : w8.cell? ⟨w.heap.size, 10, none⟩ = some (.int .i64 R.bt) := by rw [HB8.cell]; rfl
  have p11 : w8.cell? ⟨w.heap.size, 11, none⟩ = some (.int .i64 R.cd) := by rw [HB8.cell]; rfl
  have p12 : w8.cell? ⟨w.heap.size, 12, none⟩ = some (.int .i64 R.ct) := by rw [HB8.cell]; rfl
  have p13 : w8.cell? ⟨w.heap.size, 13, none⟩ = some (.int .i64 R.dd) := by rw [HB8.cell]; rfl
  have p14 : w8.cell? ⟨w.heap.size, 14, none⟩ = some (.int .i64 R.dt) := by rw [HB8.cell]; rfl
  have p15 : w8.cell? ⟨w.heap.size, 15, none⟩ = some (.int .i64 R.ey) := by rw [HB8.cell]; rfl
  have p16 : w8.cell? ⟨w.heap.size, 16, none⟩ = some (.int .i64 R.bo) := by rw [HB8.cell]; rfl
  clear HB8
  go_wp2_with fail
  go_at_call 73; refine (chartPoints_c R.ch A c 1 _ _ [(R.cd, R.ct), (R.dd, R.dt)] H1.out HF1.out rfl (by simp) _ (by repeat (with_reducible first | exact HI.out | assumption | refine Ints.drew ?_ | refine Ints.drewN _ ?_ | refine Ints.alloc _ ?_ | refine Ints.step (by assumption) ?_)) (Prs.mk2 _ _ _ _ _ _)).mono ?_; rintro e w9 ⟨v9, rfl, hO9, hb9⟩
  obtain ⟨hc9, hf9, hz9⟩ := bel hb9
  have hbel9 : Below w.heap.size w w9 := by repeat (with_reducible first | exact Below.refl _ _ | assumption | refine Bel.alloc ?_ _ | refine Bel.step (by assumption) ?_ | refine Below.drew ?_ | refine Bel.drewN ?_ _ | refine Below.setCell ?_ (by first | exact Nat.le_refl _ | omega | (simp; done) | (simp; omega)) _)
  clear hb9 hc9 hf9 hz9 hO9 p0 p1 p2 p3 p4 p5 p6 p7 p8 p9 p10 p11 p12 p13 p14 p15 p16
  have HV := Lib.hid (okRe_last H1.out H2.out H3.out H4.out H5.out H6.out H7.out)
  generalize pcC R.ch 0 [(R.ad, R.at_), (R.bd, R.bt)] = x at *
  generalize pcC R.ch 1 [(R.cd, R.ct), (R.dd, R.dt)] = y at *
  by_cases hx : x = 0
  · have HX := Lib.hid hx
    subst hx
    go_wp2
    go_ret
    exact ⟨ret_bool (by rw [HV.out]; first | rfl | (simp; rfl)), by repeat (with_reducible first | exact Below.refl _ _ | assumption | refine Bel.alloc ?_ _ | refine Bel.step (by assumption) ?_ | refine Below.drew ?_ | refine Bel.drewN ?_ _ | refine Below.setCell ?_ (by first | exact Nat.le_refl _ | omega | (simp; done) | (simp; omega)) _)⟩
  · have HX := Lib.hid (show decide (x = 0) = false by simpa using hx)
    have b1 : (x == 0) = false := by simpa using hx
    clear hx
    go_wp2
    go_ret
    exact ⟨ret_bool (by rw [HV.out, HX.out]; rfl), by repeat (with_reducible first | exact Below.refl _ _ | assumption | refine Bel.alloc ?_ _ | refine Bel.step (by assumption) ?_ | refine Below.drew ?_ | refine Bel.drewN ?_ _ | refine Below.setCell ?_ (by first | exact Nat.le_refl _ | omega | (simp; done) | (simp; omega)) _)⟩
end Go.Proofs.YtpmcgicopogbhaaGreat
