/- Chapter 23: places on the scales of a chart. Conditions: as stated at each contract. -/
import Derived.Test.YtpmcgicopogbhaaGreatProg
import Derived.Test.YtpmcgicopogbhaaGreatBase
import Derived.Test.YtpmcgicopogbhaaGreatZy
import Derived.Test.YtpmcgicopogbhaaGreatL01
import Derived.Test.YtpmcgicopogbhaaGreatCp
import Derived.Test.YtpmcgicopogbhaaGreatL18
import Derived.Test.YtpmcgicopogbhaaGreatL23
import Derived.Test.YtpmcgicopogbhaaGreatL03
import Derived.Test.YtpmcgicopogbhaaGreatL23d
import Derived.WalkKit
import Derived.WalkSpells
import Derived.WalkLawsBesides
import Derived.Lib.Hide
import Derived.Deep.QuietTactic
import Derived.BigQuiet
import Derived.Deep.Draws
import Derived.Deep.RegionHeld3
namespace Go.Proofs.YtpmcgicopogbhaaGreat
set_option linter.unusedSimpArgs false
open Go.RowKit
set_option linter.unusedVariables false
set_option maxHeartbeats 1000000 in
theorem ChartPlace_S (C : Ch) (A : Option Addr) (c : Nat) (sc dg tn : Int) (hn : C.zs.length ≤ 1048576) (hm : C.nm.size ≤ 1048576) (w : World) (hA : Ints w A C.zs) :
    Calls Tryz.prog 146 #[.agg #[.int .i64 C.dg, .int .i64 C.tn, .string C.nm, .slice A C.zs.length c, .int .i64 C.wd, .int .i64 C.lf, .int .i64 C.rt], .int .i64 sc, .agg #[.int .i64 dg, .int .i64 tn]] w fun r w' => r = .returned (.tuple #[.agg #[.int .i64 (cqL C sc dg tn), .int .i64 (cqH C sc dg tn)], .int .i64 (cqC C sc dg tn)]) ∧ Below w.heap.size w w' := by
  by_cases hk : ckC C sc (okF dg tn) = 0
  · have HQ := Lib.hid (cq_pl hk)
    obtain ⟨h, hf, hs⟩ := ckC_0 hk
    obtain ⟨a1, a2, a3, a4⟩ := cpAB_bd h sc hf
    have hL := Lib.hid (show Fl (mn (cpA C sc dg tn * cpN C sc) (cpB C sc dg tn * cpN C sc)) (cpD C sc * 1048576) = cpL C sc dg tn ∧ Cl (mx (cpA C sc dg tn * cpN C sc) (cpB C sc dg tn * cpN C sc)) (cpD C sc * 1048576) = cpH C sc dg tn from ⟨rfl, rfl⟩)
    have HK := Lib.hid hk
    clear hk
    go_enter Tryz.func146, Tryz.ntmps146
    go_wp2_with fail
    go_at_call 120; refine (l23Code_c _ _ _ _ _ _ hn hm _ (Ints.alloc _ (Ints.alloc _ (Ints.alloc _ hA)))).mono ?_; rintro e w1 ⟨rfl, hb1⟩; obtain ⟨hc1, hf1, hz1⟩ := bel hb1; (try simp only [World.size_drew, World.cell?_drew, World.frozen?_drew, World.heap_drewN, World.cell?_drewN, World.frozen?_drewN] at hc1 hf1 hz1); (try have hl1 : w.heap.size < w1.heap.size := zl hb1); (try have hm1 : w.heap.size + 1 < w1.heap.size := zl hb1); (try have hn1 : w.heap.size + 1 + 1 < w1.heap.size := zl hb1); (try have hp1 : b < w1.heap.size := zl hb1); (try have ho1 : b' < w1.heap.size := by (have hq := hb1.size; (try simp at hq); omega))
    rw [HK.out]
    have HI := Lib.hid (Ints.step hb1 (Ints.alloc _ (Ints.alloc _ (Ints.alloc _ hA))))
    have hbel1 : Below w.heap.size w w1 := by repeat (with_reducible first | exact Below.refl _ _ | assumption | refine Bel.alloc ?_ _ | refine Bel.step (by assumption) ?_ | refine Below.drew ?_ | refine Bel.drewN ?_ _ | refine Below.setCell ?_ (by first | exact Nat.le_refl _ | omega | (simp; done) | (simp; omega)) _)
    have q0 : w1.cell? ⟨w.heap.size, 0, none⟩ = some (.int .i64 C.dg) := by simp [go_sem, *]
    have q1 : w1.cell? ⟨w.heap.size, 1, none⟩ = some (.int .i64 C.tn) := by simp [go_sem, *]
    have q2 : w1.cell? ⟨w.heap.size, 2, none⟩ = some (.string C.nm) := by simp [go_sem, *]
    have q3 : w1.cell? ⟨w.heap.size, 3, none⟩ = some (.slice A C.zs.length c) := by simp [go_sem, *]
    have q4 : w1.cell? ⟨w.heap.size, 4, none⟩ = some (.int .i64 C.wd) := by simp [go_sem, *]
    have q5 : w1.cell? ⟨w.heap.size, 5, none⟩ = some (.int .i64 C.lf) := by simp [go_sem, *]
    have q6 : w1.cell? ⟨w.heap.size, 6, none⟩ = some (.int .i64 C.rt) := by simp [go_sem, *]
    have f0 : w1.cell? ⟨w.heap.size + 1, 0, none⟩ = some (.int .i64 dg) := by simp [go_sem, *]
    have f1 : w1.cell? ⟨w.heap.size + 1, 1, none⟩ = some (.int .i64 tn) := by simp [go_sem, *]
    have r0 : w1.cell? ⟨w.heap.size + 1 + 1, 0, none⟩ = some (.int .i64 0) := by simp [go_sem, *]
    have r1 : w1.cell? ⟨w.heap.size + 1 + 1, 1, none⟩ = some (.int .i64 0) := by simp [go_sem, *]
    have g0 : w1.frozen? ⟨w.heap.size + 1 + 1, 0, none⟩ = false := by simp [go_sem, *]
    have g1 : w1.frozen? ⟨w.heap.size + 1 + 1, 1, none⟩ = false := by simp [go_sem, *]
    clear hb1 hc1 hf1 hz1
    go_wp2
    go_region_held3 (fun w' => (w'.cell? ⟨w.heap.size, 0, none⟩ = some (.int .i64 C.dg) ∧ w'.cell? ⟨w.heap.size, 1, none⟩ = some (.int .i64 C.tn) ∧ w'.cell? ⟨w.heap.size, 2, none⟩ = some (.string C.nm) ∧ w'.cell? ⟨w.heap.size, 3, none⟩ = some (.slice A C.zs.length c) ∧ w'.cell? ⟨w.heap.size, 4, none⟩ = some (.int .i64 C.wd) ∧ w'.cell? ⟨w.heap.size, 5, none⟩ = some (.int .i64 C.lf) ∧ w'.cell? ⟨w.heap.size, 6, none⟩ = some (.int .i64 C.rt)) ∧ w'.cell? ⟨w.heap.size + 1, 0, none⟩ = some (.int .i64 dg) ∧ w'.cell? ⟨w.heap.size + 1, 1, none⟩ = some (.int .i64 tn)) (simp [go_sem, *])
        (first | (go_at_call 160; refine (l23Log_c _ _ _ _ _ _ h hf _).mono ?_; rintro e wa ⟨rfl, hba⟩; obtain ⟨hca, hfa, hza⟩ := bel hba; (try simp only [World.size_drew, World.cell?_drew, World.frozen?_drew, World.heap_drewN, World.cell?_drewN, World.frozen?_drewN] at hca hfa hza); (try have hla : w.heap.size < wa.heap.size := zl hba); (try have hma : w.heap.size + 1 < wa.heap.size := zl hba); (try have hna : w.heap.size + 1 + 1 < wa.heap.size := zl hba); (try have hpa : b < wa.heap.size := zl hba); (try have hoa : b' < wa.heap.size := by (have hq := hba.size; (try simp at hq); omega))) | (go_at_call 159; refine (l23Scale_c _ _ _ _ _ _ h hs a1 a2 a3 a4 _ (by repeat (with_reducible first | exact HI.out | assumption | refine Ints.drew ?_ | refine Ints.drewN _ ?_ | refine Ints.alloc _ ?_ | refine Ints.step (by assumption) ?_))).mono ?_; rintro e wx ⟨rfl, hbx⟩; obtain ⟨hcx, hfx, hzx⟩ := bel hbx; (try simp only [World.size_drew, World.cell?_drew, World.frozen?_drew, World.heap_drewN, World.cell?_drewN, World.frozen?_drewN] at hcx hfx hzx); (try have hlx : w.heap.size < wx.heap.size := zl hbx); (try have hmx : w.heap.size + 1 < wx.heap.size := zl hbx); (try have hnx : w.heap.size + 1 + 1 < wx.heap.size := zl hbx); (try have hpx : b < wx.heap.size := zl hbx); (try have hox : b' < wx.heap.size := by (have hq := hbx.size; (try simp at hq); omega))))
    all_goals
      rw [hL.out.1, hL.out.2]
      try have y0 : wx.cell? ⟨w1.heap.size, 0, none⟩ = some (.int .i64 0) := by simp [go_sem, *]
      try have y1 : wx.cell? ⟨w1.heap.size, 1, none⟩ = some (.int .i64 0) := by simp [go_sem, *]
      try have y2 : wx.cell? ⟨wa.heap.size, 0, none⟩ = some (.int .i64 0) := by simp [go_sem, *]
      try have y3 : wx.cell? ⟨wa.heap.size, 1, none⟩ = some (.int .i64 0) := by simp [go_sem, *]
      have u0 : wx.cell? ⟨w.heap.size + 1 + 1, 0, none⟩ = some (.int .i64 0) := by simp [go_sem, *]
      have u1 : wx.cell? ⟨w.heap.size + 1 + 1, 1, none⟩ = some (.int .i64 0) := by simp [go_sem, *]
      have v0 : wx.frozen? ⟨w.heap.size + 1 + 1, 0, none⟩ = false := by simp [go_sem, *]
      have v1 : wx.frozen? ⟨w.heap.size + 1 + 1, 1, none⟩ = false := by simp [go_sem, *]
      rcases pl_cases C sc dg tn with ⟨k1, k2, HP⟩ | ⟨k1, k2, HP⟩ | ⟨k1, HP⟩
      · go_wp2_with (first | (go_at_call 161; refine (l22Place_d _ _).mono ?_; rintro e w' ⟨rfl, rfl⟩))
        refine bodyPost_ret (v := .tuple #[.agg #[.int .i64 (cpL C sc dg tn), .int .i64 (cpH C sc dg tn)], .int .i64 0]) (by simp [results, Tryz.results146, go_sem, *]) rfl ⟨by rw [HQ.out.1, HQ.out.2.1, HQ.out.2.2, HP.out.1, HP.out.2.1, HP.out.2.2], by repeat (with_reducible first | exact Below.refl _ _ | assumption | refine Bel.alloc ?_ _ | refine Bel.step (by assumption) ?_ | refine Below.drew ?_ | refine Bel.drewN ?_ _ | refine Below.setCell ?_ (by first | exact Nat.le_refl _ | omega | (simp; done) | (simp; omega)) _)⟩
      · go_wp2_with (first | (go_at_call 161; refine (l22Place_d _ _).mono ?_; rintro e w' ⟨rfl, rfl⟩))
        refine bodyPost_ret (v := .tuple #[.agg #[.int .i64 0, .int .i64 0], .int .i64 3]) (by simp [results, Tryz.results146, go_sem, *]) rfl ⟨by rw [HQ.out.1, HQ.out.2.1, HQ.out.2.2, HP.out.1, HP.out.2.1, HP.out.2.2], by repeat (with_reducible first | exact Below.refl _ _ | assumption | refine Bel.alloc ?_ _ | refine Bel.step (by assumption) ?_ | refine Below.drew ?_ | refine Bel.drewN ?_ _ | refine Below.setCell ?_ (by first | exact Nat.le_refl _ | omega | (simp; done) | (simp; omega)) _)⟩
      · go_wp2_with (first | (go_at_call 161; refine (l22Place_d _ _).mono ?_; rintro e w' ⟨rfl, rfl⟩))
        refine bodyPost_ret (v := .tuple #[.agg #[.int .i64 0, .int .i64 0], .int .i64 3]) (by simp [results, Tryz.results146, go_sem, *]) rfl ⟨by rw [HQ.out.1, HQ.out.2.1, HQ.out.2.2, HP.out.1, HP.out.2.1, HP.out.2.2], by repeat (with_reducible first | exact Below.refl _ _ | assumption | refine Bel.alloc ?_ _ | refine Bel.step (by assumption) ?_ | refine Below.drew ?_ | refine Bel.drewN ?_ _ | refine Below.setCell ?_ (by first | exact Nat.le_refl _ | omega | (simp; done) | (simp; omega)) _)⟩
  · have HQ := Lib.hid (cq_no hk)
    have b1 : (ckC C sc (okF dg tn) != 0) = true := by simpa using hk
    clear hk
    go_enter Tryz.func146, Tryz.ntmps146
    go_wp2_with fail
    go_at_call 120; refine (l23Code_c _ _ _ _ _ _ hn hm _ (Ints.alloc _ (Ints.alloc _ (Ints.alloc _ hA)))).mono ?_; rintro e w1 ⟨rfl, hb1⟩; obtain ⟨hc1, hf1, hz1⟩ := bel hb1; (try simp only [World.size_drew, World.cell?_drew, World.frozen?_drew, World.heap_drewN, World.cell?_drewN, World.frozen?_drewN] at hc1 hf1 hz1); (try have hl1 : w.heap.size < w1.heap.size := zl hb1); (try have hm1 : w.heap.size + 1 < w1.heap.size := zl hb1); (try have hn1 : w.heap.size + 1 + 1 < w1.heap.size := zl hb1); (try have hp1 : b < w1.heap.size := zl hb1); (try have ho1 : b' < w1.heap.size := by (have hq := hb1.size; (try simp at hq); omega))
    go_wp2
    refine bodyPost_ret (v := .tuple #[.agg #[.int .i64 0, .int .i64 0], .int .i64 (ckC C sc (okF dg tn))]) (by simp [results, Tryz.results146, go_sem, *]) rfl ⟨by rw [HQ.out.1, HQ.out.2.1, HQ.out.2.2], by repeat (with_reducible first | exact Below.refl _ _ | assumption | refine Bel.alloc ?_ _ | refine Bel.step (by assumption) ?_ | refine Below.drew ?_ | refine Bel.drewN ?_ _ | refine Below.setCell ?_ (by first | exact Nat.le_refl _ | omega | (simp; done) | (simp; omega)) _)⟩
set_option maxHeartbeats 2000000 in
theorem chartPlace_0 (C : Ch) (A : Option Addr) (c : Nat) (dg tn : Int) (h : okCh C = true) (hf : okF dg tn = true) (w : World) (hA : Ints w A C.zs) :
    Calls Tryz.prog 144 #[.agg #[.int .i64 C.dg, .int .i64 C.tn, .string C.nm, .slice A C.zs.length c, .int .i64 C.wd, .int .i64 C.lf, .int .i64 C.rt], .int .i64 0, .agg #[.int .i64 dg, .int .i64 tn]] w fun r w' => r = .returned (.tuple #[.agg #[.int .i64 (plL C 0 dg tn), .int .i64 (plH C 0 dg tn)], .int .i64 (plC C 0 dg tn)]) ∧ Below w.heap.size w w' := by
  have HN : cpN C 0 = (C.lf * P0 C) := rfl
  have HA : cpA C 0 dg tn = (fgLo dg tn) := rfl
  have HB : cpB C 0 dg tn = (fgHi dg tn) := rfl
  obtain ⟨n1, n2⟩ := cpN_bd h 0
  obtain ⟨a1, a2, a3, a4⟩ := cpAB_bd h 0 hf
  obtain ⟨p1, p2⟩ := cpP_bd h 0 a1 a2
  obtain ⟨p3, p4⟩ := cpP_bd h 0 a3 a4
  rw [HN, HA] at p1 p2
  rw [HN, HB] at p3 p4
  rw [HN] at n1 n2
  rw [HA] at a1 a2
  rw [HB] at a3 a4
  have hL : ∀ x y : Int, mn ((fgLo dg tn) * (C.lf * P0 C)) ((fgHi dg tn) * (C.lf * P0 C)) = x → mx ((fgLo dg tn) * (C.lf * P0 C)) ((fgHi dg tn) * (C.lf * P0 C)) = y → Fl x 1048576 = cpL C 0 dg tn ∧ Cl y 1048576 = cpH C 0 dg tn := by
    rintro x y rfl rfl
    constructor <;> simp [cpL, cpH, HN, HA, HB, cpD]
  clear HN HA HB
  obtain ⟨⟨d1, d2, d3, d4⟩, ⟨hz, _⟩, _, ⟨c1, c2⟩, ⟨c3, c4⟩, _, _⟩ := okCh_iff h
  obtain ⟨f1, f2, f3, f4⟩ := okF_iff hf
  have ab := fg_bd d1 d2 (by omega) (by omega : C.tn ≤ 40)
  have bb := fg_bd f1 f2 (by omega) (by omega : tn ≤ 40)
  have e0 : IntKind.i64.wrap (C.lf * P0 C) = (C.lf * P0 C) := wr64 (by omega) (by omega)
  have e1 : IntKind.i64.wrap ((fgLo dg tn) * (C.lf * P0 C)) = (fgLo dg tn) * (C.lf * P0 C) := wr64 (by omega) (by omega)
  have e2 : IntKind.i64.wrap ((fgHi dg tn) * (C.lf * P0 C)) = (fgHi dg tn) * (C.lf * P0 C) := wr64 (by omega) (by omega)
  go_enter Tryz.func144, Tryz.ntmps144
  go_wp2_with fail
  go_at_call 108; refine (figureLog_c _ _ (by omega) (by omega) (by omega) (by omega) _).mono ?_; rintro e w1 ⟨rfl, hb1⟩; obtain ⟨hc1, hf1, hz1⟩ := bel hb1; (try simp only [World.size_drew, World.cell?_drew, World.frozen?_drew, World.heap_drewN, World.cell?_drewN, World.frozen?_drewN] at hc1 hf1 hz1); (try have hl1 : w.heap.size < w1.heap.size := zl hb1); (try have hm1 : w.heap.size + 1 < w1.heap.size := zl hb1); (try have hn1 : w.heap.size + 1 + 1 < w1.heap.size := zl hb1); (try have hp1 : b < w1.heap.size := zl hb1); (try have ho1 : b' < w1.heap.size := by (have hq := hb1.size; (try simp at hq); omega))
  have q0 : w1.cell? ⟨w.heap.size, 0, none⟩ = some (.int .i64 C.dg) := by simp [go_sem, *]
  have q1 : w1.cell? ⟨w.heap.size, 1, none⟩ = some (.int .i64 C.tn) := by simp [go_sem, *]
  have q3 : w1.cell? ⟨w.heap.size, 3, none⟩ = some (.slice A C.zs.length c) := by simp [go_sem, *]
  have q5 : w1.cell? ⟨w.heap.size, 5, none⟩ = some (.int .i64 C.lf) := by simp [go_sem, *]
  have q6 : w1.cell? ⟨w.heap.size, 6, none⟩ = some (.int .i64 C.rt) := by simp [go_sem, *]
  have r0 : w1.cell? ⟨w.heap.size + 1 + 1, 0, none⟩ = some (.int .i64 0) := by simp [go_sem, *]
  have r1 : w1.cell? ⟨w.heap.size + 1 + 1, 1, none⟩ = some (.int .i64 0) := by simp [go_sem, *]
  have g0 : w1.frozen? ⟨w.heap.size + 1 + 1, 0, none⟩ = false := by simp [go_sem, *]
  have g1 : w1.frozen? ⟨w.heap.size + 1 + 1, 1, none⟩ = false := by simp [go_sem, *]
  have hbel1 : Below w.heap.size w w1 := by repeat (with_reducible first | exact Below.refl _ _ | assumption | refine Bel.alloc ?_ _ | refine Bel.step (by assumption) ?_ | refine Below.drew ?_ | refine Bel.drewN ?_ _ | refine Below.setCell ?_ (by first | exact Nat.le_refl _ | omega | (simp; done) | (simp; omega)) _)
  obtain ⟨b, o, rfl, hbb, i0, i1⟩ := (Ints.step hbel1 hA).pows hz
  clear hb1 hc1 hf1 hz1
  go_wp2
  go_quiet (fail)
  go_wp2
  go_quiet (fail)
  by_cases hm : (fgLo dg tn) * (C.lf * P0 C) < (fgHi dg tn) * (C.lf * P0 C)
  · have HL := Lib.hid (hL _ _ (mn_le (Int.le_of_lt hm)) (mx_le (Int.le_of_lt hm)))
    clear hL
    go_wp2_with fail
    go_at_call 134; refine (down_c _ _ (by omega) (by omega) (by omega) (by omega) (by omega) _).mono ?_; rintro e w' ⟨rfl, rfl⟩
    rw [HL.out.1]
    go_wp2_with fail
    go_at_call 98; refine (up_c _ _ (by omega) (by omega) (by omega) (by omega) (by omega) _).mono ?_; rintro e w' ⟨rfl, rfl⟩
    rw [HL.out.2]
    rcases pl_cases C 0 dg tn with ⟨j1, j2, HP⟩ | ⟨j1, j2, HP⟩ | ⟨j1, HP⟩
    · go_wp2_with (first | (go_at_call 158; refine (isPlace_d _ _).mono ?_; rintro e w' ⟨rfl, rfl⟩))
      refine bodyPost_ret (v := .tuple #[.agg #[.int .i64 (cpL C 0 dg tn), .int .i64 (cpH C 0 dg tn)], .int .i64 0]) (by simp [results, Tryz.results144, go_sem, *]) rfl ⟨by rw [HP.out.1, HP.out.2.1, HP.out.2.2], by repeat (with_reducible first | exact Below.refl _ _ | assumption | refine Bel.alloc ?_ _ | refine Bel.step (by assumption) ?_ | refine Below.drew ?_ | refine Bel.drewN ?_ _ | refine Below.setCell ?_ (by first | exact Nat.le_refl _ | omega | (simp; done) | (simp; omega)) _)⟩
    · go_wp2_with (first | (go_at_call 158; refine (isPlace_d _ _).mono ?_; rintro e w' ⟨rfl, rfl⟩))
      refine bodyPost_ret (v := .tuple #[.agg #[.int .i64 0, .int .i64 0], .int .i64 3]) (by simp [results, Tryz.results144, go_sem, *]) rfl ⟨by rw [HP.out.1, HP.out.2.1, HP.out.2.2], by repeat (with_reducible first | exact Below.refl _ _ | assumption | refine Bel.alloc ?_ _ | refine Bel.step (by assumption) ?_ | refine Below.drew ?_ | refine Bel.drewN ?_ _ | refine Below.setCell ?_ (by first | exact Nat.le_refl _ | omega | (simp; done) | (simp; omega)) _)⟩
    · go_wp2_with (first | (go_at_call 158; refine (isPlace_d _ _).mono ?_; rintro e w' ⟨rfl, rfl⟩))
      refine bodyPost_ret (v := .tuple #[.agg #[.int .i64 0, .int .i64 0], .int .i64 3]) (by simp [results, Tryz.results144, go_sem, *]) rfl ⟨by rw [HP.out.1, HP.out.2.1, HP.out.2.2], by repeat (with_reducible first | exact Below.refl _ _ | assumption | refine Bel.alloc ?_ _ | refine Bel.step (by assumption) ?_ | refine Below.drew ?_ | refine Bel.drewN ?_ _ | refine Below.setCell ?_ (by first | exact Nat.le_refl _ | omega | (simp; done) | (simp; omega)) _)⟩
  · by_cases hg : (fgHi dg tn) * (C.lf * P0 C) < (fgLo dg tn) * (C.lf * P0 C)
    · have HL := Lib.hid (hL _ _ (mn_ge (Int.le_of_lt hg)) (mx_ge (Int.le_of_lt hg)))
      clear hL hm
      go_wp2_with fail
      go_at_call 134; refine (down_c _ _ (by omega) (by omega) (by omega) (by omega) (by omega) _).mono ?_; rintro e w' ⟨rfl, rfl⟩
      rw [HL.out.1]
      go_wp2_with fail
      go_at_call 98; refine (up_c _ _ (by omega) (by omega) (by omega) (by omega) (by omega) _).mono ?_; rintro e w' ⟨rfl, rfl⟩
      rw [HL.out.2]
      rcases pl_cases C 0 dg tn with ⟨j1, j2, HP⟩ | ⟨j1, j2, HP⟩ | ⟨j1, HP⟩
      · go_wp2_with (first | (go_at_call 158; refine (isPlace_d _ _).mono ?_; rintro e w' ⟨rfl, rfl⟩))
        refine bodyPost_ret (v := .tuple #[.agg #[.int .i64 (cpL C 0 dg tn), .int .i64 (cpH C 0 dg tn)], .int .i64 0]) (by simp [results, Tryz.results144, go_sem, *]) rfl ⟨by rw [HP.out.1, HP.out.2.1, HP.out.2.2], by repeat (with_reducible first | exact Below.refl _ _ | assumption | refine Bel.alloc ?_ _ | refine Bel.step (by assumption) ?_ | refine Below.drew ?_ | refine Bel.drewN ?_ _ | refine Below.setCell ?_ (by first | exact Nat.le_refl _ | omega | (simp; done) | (simp; omega)) _)⟩
      · go_wp2_with (first | (go_at_call 158; refine (isPlace_d _ _).mono ?_; rintro e w' ⟨rfl, rfl⟩))
        refine bodyPost_ret (v := .tuple #[.agg #[.int .i64 0, .int .i64 0], .int .i64 3]) (by simp [results, Tryz.results144, go_sem, *]) rfl ⟨by rw [HP.out.1, HP.out.2.1, HP.out.2.2], by repeat (with_reducible first | exact Below.refl _ _ | assumption | refine Bel.alloc ?_ _ | refine Bel.step (by assumption) ?_ | refine Below.drew ?_ | refine Bel.drewN ?_ _ | refine Below.setCell ?_ (by first | exact Nat.le_refl _ | omega | (simp; done) | (simp; omega)) _)⟩
      · go_wp2_with (first | (go_at_call 158; refine (isPlace_d _ _).mono ?_; rintro e w' ⟨rfl, rfl⟩))
        refine bodyPost_ret (v := .tuple #[.agg #[.int .i64 0, .int .i64 0], .int .i64 3]) (by simp [results, Tryz.results144, go_sem, *]) rfl ⟨by rw [HP.out.1, HP.out.2.1, HP.out.2.2], by repeat (with_reducible first | exact Below.refl _ _ | assumption | refine Bel.alloc ?_ _ | refine Bel.step (by assumption) ?_ | refine Below.drew ?_ | refine Bel.drewN ?_ _ | refine Below.setCell ?_ (by first | exact Nat.le_refl _ | omega | (simp; done) | (simp; omega)) _)⟩
    · have he : (fgHi dg tn) * (C.lf * P0 C) = (fgLo dg tn) * (C.lf * P0 C) := by omega
      have HL := Lib.hid (hL ((fgLo dg tn) * (C.lf * P0 C)) ((fgLo dg tn) * (C.lf * P0 C)) (by rw [he]; simp [mn]) (by rw [he]; simp [mx]))
      clear hL hm hg p3 p4
      rw [he] at e2 ⊢
      clear e2
      go_wp2_with fail
      go_at_call 134; refine (down_c _ _ (by omega) (by omega) (by omega) (by omega) (by omega) _).mono ?_; rintro e w' ⟨rfl, rfl⟩
      rw [HL.out.1]
      go_wp2_with fail
      go_at_call 98; refine (up_c _ _ (by omega) (by omega) (by omega) (by omega) (by omega) _).mono ?_; rintro e w' ⟨rfl, rfl⟩
      rw [HL.out.2]
      rcases pl_cases C 0 dg tn with ⟨j1, j2, HP⟩ | ⟨j1, j2, HP⟩ | ⟨j1, HP⟩
      · go_wp2_with (first | (go_at_call 158; refine (isPlace_d _ _).mono ?_; rintro e w' ⟨rfl, rfl⟩))
        refine bodyPost_ret (v := .tuple #[.agg #[.int .i64 (cpL C 0 dg tn), .int .i64 (cpH C 0 dg tn)], .int .i64 0]) (by simp [results, Tryz.results144, go_sem, *]) rfl ⟨by rw [HP.out.1, HP.out.2.1, HP.out.2.2], by repeat (with_reducible first | exact Below.refl _ _ | assumption | refine Bel.alloc ?_ _ | refine Bel.step (by assumption) ?_ | refine Below.drew ?_ | refine Bel.drewN ?_ _ | refine Below.setCell ?_ (by first | exact Nat.le_refl _ | omega | (simp; done) | (simp; omega)) _)⟩
      · go_wp2_with (first | (go_at_call 158; refine (isPlace_d _ _).mono ?_; rintro e w' ⟨rfl, rfl⟩))
        refine bodyPost_ret (v := .tuple #[.agg #[.int .i64 0, .int .i64 0], .int .i64 3]) (by simp [results, Tryz.results144, go_sem, *]) rfl ⟨by rw [HP.out.1, HP.out.2.1, HP.out.2.2], by repeat (with_reducible first | exact Below.refl _ _ | assumption | refine Bel.alloc ?_ _ | refine Bel.step (by assumption) ?_ | refine Below.drew ?_ | refine Bel.drewN ?_ _ | refine Below.setCell ?_ (by first | exact Nat.le_refl _ | omega | (simp; done) | (simp; omega)) _)⟩
      · go_wp2_with (first | (go_at_call 158; refine (isPlace_d _ _).mono ?_; rintro e w' ⟨rfl, rfl⟩))
        refine bodyPost_ret (v := .tuple #[.agg #[.int .i64 0, .int .i64 0], .int .i64 3]) (by simp [results, Tryz.results144, go_sem, *]) rfl ⟨by rw [HP.out.1, HP.out.2.1, HP.out.2.2], by repeat (with_reducible first | exact Below.refl _ _ | assumption | refine Bel.alloc ?_ _ | refine Bel.step (by assumption) ?_ | refine Below.drew ?_ | refine Bel.drewN ?_ _ | refine Below.setCell ?_ (by first | exact Nat.le_refl _ | omega | (simp; done) | (simp; omega)) _)⟩
set_option maxHeartbeats 2000000 in
theorem chartPlace_1 (C : Ch) (A : Option Addr) (c : Nat) (dg tn : Int) (h : okCh C = true) (hf : okF dg tn = true) (w : World) (hA : Ints w A C.zs) :
    Calls Tryz.prog 144 #[.agg #[.int .i64 C.dg, .int .i64 C.tn, .string C.nm, .slice A C.zs.length c, .int .i64 C.wd, .int .i64 C.lf, .int .i64 C.rt], .int .i64 1, .agg #[.int .i64 dg, .int .i64 tn]] w fun r w' => r = .returned (.tuple #[.agg #[.int .i64 (plL C 1 dg tn), .int .i64 (plH C 1 dg tn)], .int .i64 (plC C 1 dg tn)]) ∧ Below w.heap.size w w' := by
  have HN : cpN C 1 = (C.rt * P1 C) := rfl
  have HA : cpA C 1 dg tn = (fgLo dg tn) := rfl
  have HB : cpB C 1 dg tn = (fgHi dg tn) := rfl
  obtain ⟨n1, n2⟩ := cpN_bd h 1
  obtain ⟨a1, a2, a3, a4⟩ := cpAB_bd h 1 hf
  obtain ⟨p1, p2⟩ := cpP_bd h 1 a1 a2
  obtain ⟨p3, p4⟩ := cpP_bd h 1 a3 a4
  rw [HN, HA] at p1 p2
  rw [HN, HB] at p3 p4
  rw [HN] at n1 n2
  rw [HA] at a1 a2
  rw [HB] at a3 a4
  have hL : ∀ x y : Int, mn ((fgLo dg tn) * (C.rt * P1 C)) ((fgHi dg tn) * (C.rt * P1 C)) = x → mx ((fgLo dg tn) * (C.rt * P1 C)) ((fgHi dg tn) * (C.rt * P1 C)) = y → Fl x 1048576 = cpL C 1 dg tn ∧ Cl y 1048576 = cpH C 1 dg tn := by
    rintro x y rfl rfl
    constructor <;> simp [cpL, cpH, HN, HA, HB, cpD]
  clear HN HA HB
  obtain ⟨⟨d1, d2, d3, d4⟩, ⟨hz, _⟩, _, ⟨c1, c2⟩, ⟨c3, c4⟩, _, _⟩ := okCh_iff h
  obtain ⟨f1, f2, f3, f4⟩ := okF_iff hf
  have ab := fg_bd d1 d2 (by omega) (by omega : C.tn ≤ 40)
  have bb := fg_bd f1 f2 (by omega) (by omega : tn ≤ 40)
  have e0 : IntKind.i64.wrap (C.rt * P1 C) = (C.rt * P1 C) := wr64 (by omega) (by omega)
  have e1 : IntKind.i64.wrap ((fgLo dg tn) * (C.rt * P1 C)) = (fgLo dg tn) * (C.rt * P1 C) := wr64 (by omega) (by omega)
  have e2 : IntKind.i64.wrap ((fgHi dg tn) * (C.rt * P1 C)) = (fgHi dg tn) * (C.rt * P1 C) := wr64 (by omega) (by omega)
  go_enter Tryz.func144, Tryz.ntmps144
  go_wp2_with fail
  go_at_call 108; refine (figureLog_c _ _ (by omega) (by omega) (by omega) (by omega) _).mono ?_; rintro e w1 ⟨rfl, hb1⟩; obtain ⟨hc1, hf1, hz1⟩ := bel hb1; (try simp only [World.size_drew, World.cell?_drew, World.frozen?_drew, World.heap_drewN, World.cell?_drewN, World.frozen?_drewN] at hc1 hf1 hz1); (try have hl1 : w.heap.size < w1.heap.size := zl hb1); (try have hm1 : w.heap.size + 1 < w1.heap.size := zl hb1); (try have hn1 : w.heap.size + 1 + 1 < w1.heap.size := zl hb1); (try have hp1 : b < w1.heap.size := zl hb1); (try have ho1 : b' < w1.heap.size := by (have hq := hb1.size; (try simp at hq); omega))
  have q0 : w1.cell? ⟨w.heap.size, 0, none⟩ = some (.int .i64 C.dg) := by simp [go_sem, *]
  have q1 : w1.cell? ⟨w.heap.size, 1, none⟩ = some (.int .i64 C.tn) := by simp [go_sem, *]
  have q3 : w1.cell? ⟨w.heap.size, 3, none⟩ = some (.slice A C.zs.length c) := by simp [go_sem, *]
  have q5 : w1.cell? ⟨w.heap.size, 5, none⟩ = some (.int .i64 C.lf) := by simp [go_sem, *]
  have q6 : w1.cell? ⟨w.heap.size, 6, none⟩ = some (.int .i64 C.rt) := by simp [go_sem, *]
  have r0 : w1.cell? ⟨w.heap.size + 1 + 1, 0, none⟩ = some (.int .i64 0) := by simp [go_sem, *]
  have r1 : w1.cell? ⟨w.heap.size + 1 + 1, 1, none⟩ = some (.int .i64 0) := by simp [go_sem, *]
  have g0 : w1.frozen? ⟨w.heap.size + 1 + 1, 0, none⟩ = false := by simp [go_sem, *]
  have g1 : w1.frozen? ⟨w.heap.size + 1 + 1, 1, none⟩ = false := by simp [go_sem, *]
  have hbel1 : Below w.heap.size w w1 := by repeat (with_reducible first | exact Below.refl _ _ | assumption | refine Bel.alloc ?_ _ | refine Bel.step (by assumption) ?_ | refine Below.drew ?_ | refine Bel.drewN ?_ _ | refine Below.setCell ?_ (by first | exact Nat.le_refl _ | omega | (simp; done) | (simp; omega)) _)
  obtain ⟨b, o, rfl, hbb, i0, i1⟩ := (Ints.step hbel1 hA).pows hz
  clear hb1 hc1 hf1 hz1
  go_wp2
  go_quiet (fail)
  go_wp2
  go_quiet (fail)
  go_wp2
  go_quiet (fail)
  by_cases hm : (fgLo dg tn) * (C.rt * P1 C) < (fgHi dg tn) * (C.rt * P1 C)
  · have HL := Lib.hid (hL _ _ (mn_le (Int.le_of_lt hm)) (mx_le (Int.le_of_lt hm)))
    clear hL
    go_wp2_with fail
    go_at_call 134; refine (down_c _ _ (by omega) (by omega) (by omega) (by omega) (by omega) _).mono ?_; rintro e w' ⟨rfl, rfl⟩
    rw [HL.out.1]
    go_wp2_with fail
    go_at_call 98; refine (up_c _ _ (by omega) (by omega) (by omega) (by omega) (by omega) _).mono ?_; rintro e w' ⟨rfl, rfl⟩
    rw [HL.out.2]
    rcases pl_cases C 1 dg tn with ⟨j1, j2, HP⟩ | ⟨j1, j2, HP⟩ | ⟨j1, HP⟩
    · go_wp2_with (first | (go_at_call 158; refine (isPlace_d _ _).mono ?_; rintro e w' ⟨rfl, rfl⟩))
      refine bodyPost_ret (v := .tuple #[.agg #[.int .i64 (cpL C 1 dg tn), .int .i64 (cpH C 1 dg tn)], .int .i64 0]) (by simp [results, Tryz.results144, go_sem, *]) rfl ⟨by rw [HP.out.1, HP.out.2.1, HP.out.2.2], by repeat (with_reducible first | exact Below.refl _ _ | assumption | refine Bel.alloc ?_ _ | refine Bel.step (by assumption) ?_ | refine Below.drew ?_ | refine Bel.drewN ?_ _ | refine Below.setCell ?_ (by first | exact Nat.le_refl _ | omega | (simp; done) | (simp; omega)) _)⟩
    · go_wp2_with (first | (go_at_call 158; refine (isPlace_d _ _).mono ?_; rintro e w' ⟨rfl, rfl⟩))
      refine bodyPost_ret (v := .tuple #[.agg #[.int .i64 0, .int .i64 0], .int .i64 3]) (by simp [results, Tryz.results144, go_sem, *]) rfl ⟨by rw [HP.out.1, HP.out.2.1, HP.out.2.2], by repeat (with_reducible first | exact Below.refl _ _ | assumption | refine Bel.alloc ?_ _ | refine Bel.step (by assumption) ?_ | refine Below.drew ?_ | refine Bel.drewN ?_ _ | refine Below.setCell ?_ (by first | exact Nat.le_refl _ | omega | (simp; done) | (simp; omega)) _)⟩
    · go_wp2_with (first | (go_at_call 158; refine (isPlace_d _ _).mono ?_; rintro e w' ⟨rfl, rfl⟩))
      refine bodyPost_ret (v := .tuple #[.agg #[.int .i64 0, .int .i64 0], .int .i64 3]) (by simp [results, Tryz.results144, go_sem, *]) rfl ⟨by rw [HP.out.1, HP.out.2.1, HP.out.2.2], by repeat (with_reducible first | exact Below.refl _ _ | assumption | refine Bel.alloc ?_ _ | refine Bel.step (by assumption) ?_ | refine Below.drew ?_ | refine Bel.drewN ?_ _ | refine Below.setCell ?_ (by first | exact Nat.le_refl _ | omega | (simp; done) | (simp; omega)) _)⟩
  · by_cases hg : (fgHi dg tn) * (C.rt * P1 C) < (fgLo dg tn) * (C.rt * P1 C)
    · have HL := Lib.hid (hL _ _ (mn_ge (Int.le_of_lt hg)) (mx_ge (Int.le_of_lt hg)))
      clear hL hm
      go_wp2_with fail
      go_at_call 134; refine (down_c _ _ (by omega) (by omega) (by omega) (by omega) (by omega) _).mono ?_; rintro e w' ⟨rfl, rfl⟩
      rw [HL.out.1]
      go_wp2_with fail
      go_at_call 98; refine (up_c _ _ (by omega) (by omega) (by omega) (by omega) (by omega) _).mono ?_; rintro e w' ⟨rfl, rfl⟩
      rw [HL.out.2]
      rcases pl_cases C 1 dg tn with ⟨j1, j2, HP⟩ | ⟨j1, j2, HP⟩ | ⟨j1, HP⟩
      · go_wp2_with (first | (go_at_call 158; refine (isPlace_d _ _).mono ?_; rintro e w' ⟨rfl, rfl⟩))
        refine bodyPost_ret (v := .tuple #[.agg #[.int .i64 (cpL C 1 dg tn), .int .i64 (cpH C 1 dg tn)], .int .i64 0]) (by simp [results, Tryz.results144, go_sem, *]) rfl ⟨by rw [HP.out.1, HP.out.2.1, HP.out.2.2], by repeat (with_reducible first | exact Below.refl _ _ | assumption | refine Bel.alloc ?_ _ | refine Bel.step (by assumption) ?_ | refine Below.drew ?_ | refine Bel.drewN ?_ _ | refine Below.setCell ?_ (by first | exact Nat.le_refl _ | omega | (simp; done) | (simp; omega)) _)⟩
      · go_wp2_with (first | (go_at_call 158; refine (isPlace_d _ _).mono ?_; rintro e w' ⟨rfl, rfl⟩))
        refine bodyPost_ret (v := .tuple #[.agg #[.int .i64 0, .int .i64 0], .int .i64 3]) (by simp [results, Tryz.results144, go_sem, *]) rfl ⟨by rw [HP.out.1, HP.out.2.1, HP.out.2.2], by repeat (with_reducible first | exact Below.refl _ _ | assumption | refine Bel.alloc ?_ _ | refine Bel.step (by assumption) ?_ | refine Below.drew ?_ | refine Bel.drewN ?_ _ | refine Below.setCell ?_ (by first | exact Nat.le_refl _ | omega | (simp; done) | (simp; omega)) _)⟩
      · go_wp2_with (first | (go_at_call 158; refine (isPlace_d _ _).mono ?_; rintro e w' ⟨rfl, rfl⟩))
        refine bodyPost_ret (v := .tuple #[.agg #[.int .i64 0, .int .i64 0], .int .i64 3]) (by simp [results, Tryz.results144, go_sem, *]) rfl ⟨by rw [HP.out.1, HP.out.2.1, HP.out.2.2], by repeat (with_reducible first | exact Below.refl _ _ | assumption | refine Bel.alloc ?_ _ | refine Bel.step (by assumption) ?_ | refine Below.drew ?_ | refine Bel.drewN ?_ _ | refine Below.setCell ?_ (by first | exact Nat.le_refl _ | omega | (simp; done) | (simp; omega)) _)⟩
    · have he : (fgHi dg tn) * (C.rt * P1 C) = (fgLo dg tn) * (C.rt * P1 C) := by omega
      have HL := Lib.hid (hL ((fgLo dg tn) * (C.rt * P1 C)) ((fgLo dg tn) * (C.rt * P1 C)) (by rw [he]; simp [mn]) (by rw [he]; simp [mx]))
      clear hL hm hg p3 p4
      rw [he] at e2 ⊢
      clear e2
      go_wp2_with fail
      go_at_call 134; refine (down_c _ _ (by omega) (by omega) (by omega) (by omega) (by omega) _).mono ?_; rintro e w' ⟨rfl, rfl⟩
      rw [HL.out.1]
      go_wp2_with fail
      go_at_call 98; refine (up_c _ _ (by omega) (by omega) (by omega) (by omega) (by omega) _).mono ?_; rintro e w' ⟨rfl, rfl⟩
      rw [HL.out.2]
      rcases pl_cases C 1 dg tn with ⟨j1, j2, HP⟩ | ⟨j1, j2, HP⟩ | ⟨j1, HP⟩
      · go_wp2_with (first | (go_at_call 158; refine (isPlace_d _ _).mono ?_; rintro e w' ⟨rfl, rfl⟩))
        refine bodyPost_ret (v := .tuple #[.agg #[.int .i64 (cpL C 1 dg tn), .int .i64 (cpH C 1 dg tn)], .int .i64 0]) (by simp [results, Tryz.results144, go_sem, *]) rfl ⟨by rw [HP.out.1, HP.out.2.1, HP.out.2.2], by repeat (with_reducible first | exact Below.refl _ _ | assumption | refine Bel.alloc ?_ _ | refine Bel.step (by assumption) ?_ | refine Below.drew ?_ | refine Bel.drewN ?_ _ | refine Below.setCell ?_ (by first | exact Nat.le_refl _ | omega | (simp; done) | (simp; omega)) _)⟩
      · go_wp2_with (first | (go_at_call 158; refine (isPlace_d _ _).mono ?_; rintro e w' ⟨rfl, rfl⟩))
        refine bodyPost_ret (v := .tuple #[.agg #[.int .i64 0, .int .i64 0], .int .i64 3]) (by simp [results, Tryz.results144, go_sem, *]) rfl ⟨by rw [HP.out.1, HP.out.2.1, HP.out.2.2], by repeat (with_reducible first | exact Below.refl _ _ | assumption | refine Bel.alloc ?_ _ | refine Bel.step (by assumption) ?_ | refine Below.drew ?_ | refine Bel.drewN ?_ _ | refine Below.setCell ?_ (by first | exact Nat.le_refl _ | omega | (simp; done) | (simp; omega)) _)⟩
      · go_wp2_with (first | (go_at_call 158; refine (isPlace_d _ _).mono ?_; rintro e w' ⟨rfl, rfl⟩))
        refine bodyPost_ret (v := .tuple #[.agg #[.int .i64 0, .int .i64 0], .int .i64 3]) (by simp [results, Tryz.results144, go_sem, *]) rfl ⟨by rw [HP.out.1, HP.out.2.1, HP.out.2.2], by repeat (with_reducible first | exact Below.refl _ _ | assumption | refine Bel.alloc ?_ _ | refine Bel.step (by assumption) ?_ | refine Below.drew ?_ | refine Bel.drewN ?_ _ | refine Below.setCell ?_ (by first | exact Nat.le_refl _ | omega | (simp; done) | (simp; omega)) _)⟩
set_option maxHeartbeats 2000000 in
theorem chartPlace_2 (C : Ch) (A : Option Addr) (c : Nat) (dg tn : Int) (h : okCh C = true) (hf : okF dg tn = true) (w : World) (hA : Ints w A C.zs) :
    Calls Tryz.prog 144 #[.agg #[.int .i64 C.dg, .int .i64 C.tn, .string C.nm, .slice A C.zs.length c, .int .i64 C.wd, .int .i64 C.lf, .int .i64 C.rt], .int .i64 2, .agg #[.int .i64 dg, .int .i64 tn]] w fun r w' => r = .returned (.tuple #[.agg #[.int .i64 (plL C 2 dg tn), .int .i64 (plH C 2 dg tn)], .int .i64 (plC C 2 dg tn)]) ∧ Below w.heap.size w w' := by
  have HN : cpN C 2 = (C.lf * C.rt) := rfl
  have HA : cpA C 2 dg tn = (fgLo dg tn - fgHi C.dg C.tn) := rfl
  have HB : cpB C 2 dg tn = (fgHi dg tn - fgLo C.dg C.tn) := rfl
  obtain ⟨n1, n2⟩ := cpN_bd h 2
  obtain ⟨a1, a2, a3, a4⟩ := cpAB_bd h 2 hf
  obtain ⟨p1, p2⟩ := cpP_bd h 2 a1 a2
  obtain ⟨p3, p4⟩ := cpP_bd h 2 a3 a4
  rw [HN, HA] at p1 p2
  rw [HN, HB] at p3 p4
  rw [HN] at n1 n2
  rw [HA] at a1 a2
  rw [HB] at a3 a4
  have hL : ∀ x y : Int, mn ((fgLo dg tn - fgHi C.dg C.tn) * (C.lf * C.rt)) ((fgHi dg tn - fgLo C.dg C.tn) * (C.lf * C.rt)) = x → mx ((fgLo dg tn - fgHi C.dg C.tn) * (C.lf * C.rt)) ((fgHi dg tn - fgLo C.dg C.tn) * (C.lf * C.rt)) = y → Fl x ((C.lf + C.rt) * 1048576) = cpL C 2 dg tn ∧ Cl y ((C.lf + C.rt) * 1048576) = cpH C 2 dg tn := by
    rintro x y rfl rfl
    constructor <;> simp [cpL, cpH, HN, HA, HB, cpD]
  clear HN HA HB
  obtain ⟨⟨d1, d2, d3, d4⟩, ⟨hz, _⟩, _, ⟨c1, c2⟩, ⟨c3, c4⟩, _, _⟩ := okCh_iff h
  obtain ⟨f1, f2, f3, f4⟩ := okF_iff hf
  have ab := fg_bd d1 d2 (by omega) (by omega : C.tn ≤ 40)
  have bb := fg_bd f1 f2 (by omega) (by omega : tn ≤ 40)
  have e0 : IntKind.i64.wrap (C.lf * C.rt) = (C.lf * C.rt) := wr64 (by omega) (by omega)
  have e1 : IntKind.i64.wrap ((fgLo dg tn - fgHi C.dg C.tn) * (C.lf * C.rt)) = (fgLo dg tn - fgHi C.dg C.tn) * (C.lf * C.rt) := wr64 (by omega) (by omega)
  have e2 : IntKind.i64.wrap ((fgHi dg tn - fgLo C.dg C.tn) * (C.lf * C.rt)) = (fgHi dg tn - fgLo C.dg C.tn) * (C.lf * C.rt) := wr64 (by omega) (by omega)
  go_enter Tryz.func144, Tryz.ntmps144
  go_wp2_with fail
  go_at_call 108; refine (figureLog_c _ _ (by omega) (by omega) (by omega) (by omega) _).mono ?_; rintro e w1 ⟨rfl, hb1⟩; obtain ⟨hc1, hf1, hz1⟩ := bel hb1; (try simp only [World.size_drew, World.cell?_drew, World.frozen?_drew, World.heap_drewN, World.cell?_drewN, World.frozen?_drewN] at hc1 hf1 hz1); (try have hl1 : w.heap.size < w1.heap.size := zl hb1); (try have hm1 : w.heap.size + 1 < w1.heap.size := zl hb1); (try have hn1 : w.heap.size + 1 + 1 < w1.heap.size := zl hb1); (try have hp1 : b < w1.heap.size := zl hb1); (try have ho1 : b' < w1.heap.size := by (have hq := hb1.size; (try simp at hq); omega))
  have q0 : w1.cell? ⟨w.heap.size, 0, none⟩ = some (.int .i64 C.dg) := by simp [go_sem, *]
  have q1 : w1.cell? ⟨w.heap.size, 1, none⟩ = some (.int .i64 C.tn) := by simp [go_sem, *]
  have q3 : w1.cell? ⟨w.heap.size, 3, none⟩ = some (.slice A C.zs.length c) := by simp [go_sem, *]
  have q5 : w1.cell? ⟨w.heap.size, 5, none⟩ = some (.int .i64 C.lf) := by simp [go_sem, *]
  have q6 : w1.cell? ⟨w.heap.size, 6, none⟩ = some (.int .i64 C.rt) := by simp [go_sem, *]
  have r0 : w1.cell? ⟨w.heap.size + 1 + 1, 0, none⟩ = some (.int .i64 0) := by simp [go_sem, *]
  have r1 : w1.cell? ⟨w.heap.size + 1 + 1, 1, none⟩ = some (.int .i64 0) := by simp [go_sem, *]
  have g0 : w1.frozen? ⟨w.heap.size + 1 + 1, 0, none⟩ = false := by simp [go_sem, *]
  have g1 : w1.frozen? ⟨w.heap.size + 1 + 1, 1, none⟩ = false := by simp [go_sem, *]
  have hbel1 : Below w.heap.size w w1 := by repeat (with_reducible first | exact Below.refl _ _ | assumption | refine Bel.alloc ?_ _ | refine Bel.step (by assumption) ?_ | refine Below.drew ?_ | refine Bel.drewN ?_ _ | refine Below.setCell ?_ (by first | exact Nat.le_refl _ | omega | (simp; done) | (simp; omega)) _)
  obtain ⟨b, o, rfl, hbb, i0, i1⟩ := (Ints.step hbel1 hA).pows hz
  clear hb1 hc1 hf1 hz1
  go_wp2
  go_quiet (fail)
  go_wp2
  generalize hw2 : (w1.alloc (.cells #[.int .i64 (fgLo dg tn), .int .i64 (fgHi dg tn)] 92)).drewN nq = w2
  have hb2 : Below w1.heap.size w1 w2 := by rw [← hw2]; repeat (with_reducible first | exact Below.refl _ _ | assumption | refine Bel.alloc ?_ _ | refine Bel.step (by assumption) ?_ | refine Below.drew ?_ | refine Bel.drewN ?_ _ | refine Below.setCell ?_ (by first | exact Nat.le_refl _ | omega | (simp; done) | (simp; omega)) _)
  have t0 : w2.cell? ⟨w1.heap.size, 0, none⟩ = some (.int .i64 (fgLo dg tn)) := by rw [← hw2]; simp [go_sem]
  have t1 : w2.cell? ⟨w1.heap.size, 1, none⟩ = some (.int .i64 (fgHi dg tn)) := by rw [← hw2]; simp [go_sem]
  have tf0 : w2.frozen? ⟨w1.heap.size, 0, none⟩ = false := by rw [← hw2]; simp [go_sem]
  have tf1 : w2.frozen? ⟨w1.heap.size, 1, none⟩ = false := by rw [← hw2]; simp [go_sem]
  have hs2 : w2.heap.size = w1.heap.size + 1 := by rw [← hw2]; simp [go_sem]
  obtain ⟨hc2, hf2, hz2⟩ := bel hb2
  have s0 : w2.cell? ⟨w.heap.size, 0, none⟩ = some (.int .i64 C.dg) := by simp [go_sem, *]
  have s1 : w2.cell? ⟨w.heap.size, 1, none⟩ = some (.int .i64 C.tn) := by simp [go_sem, *]
  have s5 : w2.cell? ⟨w.heap.size, 5, none⟩ = some (.int .i64 C.lf) := by simp [go_sem, *]
  have s6 : w2.cell? ⟨w.heap.size, 6, none⟩ = some (.int .i64 C.rt) := by simp [go_sem, *]
  have v0 : w2.cell? ⟨w.heap.size + 1 + 1, 0, none⟩ = some (.int .i64 0) := by simp [go_sem, *]
  have v1 : w2.cell? ⟨w.heap.size + 1 + 1, 1, none⟩ = some (.int .i64 0) := by simp [go_sem, *]
  have vf0 : w2.frozen? ⟨w.heap.size + 1 + 1, 0, none⟩ = false := by simp [go_sem, *]
  have vf1 : w2.frozen? ⟨w.heap.size + 1 + 1, 1, none⟩ = false := by simp [go_sem, *]
  have hbel2 : Below w.heap.size w w2 := Bel.step hb2 hbel1
  have k1 : w.heap.size + 1 + 1 < w2.heap.size := by omega
  have k2 : w.heap.size < w2.heap.size := by omega
  have k3 : w1.heap.size < w2.heap.size := by omega
  clear hw2 hs2 hb2 hc2 hf2 hz2 q0 q1 q3 q5 q6 r0 r1 g0 g1 i0 i1
  go_region_with (first | (go_at_call 108; refine (figureLog_c _ _ (by omega) (by omega) (by omega) (by omega) _).mono ?_; rintro e wa ⟨rfl, hba⟩; obtain ⟨hca, hfa, hza⟩ := bel hba; (try simp only [World.size_drew, World.cell?_drew, World.frozen?_drew, World.heap_drewN, World.cell?_drewN, World.frozen?_drewN] at hca hfa hza); (try have hla : w.heap.size < wa.heap.size := zl hba); (try have hma : w.heap.size + 1 < wa.heap.size := zl hba); (try have hna : w.heap.size + 1 + 1 < wa.heap.size := zl hba); (try have hpa : b < wa.heap.size := zl hba); (try have hoa : b' < wa.heap.size := by (have hq := hba.size; (try simp at hq); omega))) | (go_at_call 157; refine (difference_c _ _ _ _ (by omega) (by omega) (by omega) (by omega) (by omega) (by omega) (by omega) (by omega) _).mono ?_; rintro e wx ⟨rfl, hbx⟩; obtain ⟨hcx, hfx, hzx⟩ := bel hbx; (try simp only [World.size_drew, World.cell?_drew, World.frozen?_drew, World.heap_drewN, World.cell?_drewN, World.frozen?_drewN] at hcx hfx hzx); (try have hlx : w.heap.size < wx.heap.size := zl hbx); (try have hmx : w.heap.size + 1 < wx.heap.size := zl hbx); (try have hnx : w.heap.size + 1 + 1 < wx.heap.size := zl hbx); (try have hpx : b < wx.heap.size := zl hbx); (try have hox : b' < wx.heap.size := by (have hq := hbx.size; (try simp at hq); omega))))
  all_goals
    have s5 : wx.cell? ⟨w.heap.size, 5, none⟩ = some (.int .i64 C.lf) := by simp [go_sem, *]
    have s6 : wx.cell? ⟨w.heap.size, 6, none⟩ = some (.int .i64 C.rt) := by simp [go_sem, *]
    have t0 : wx.cell? ⟨w1.heap.size, 0, none⟩ = some (.int .i64 (fgLo dg tn)) := by simp [go_sem, *]
    have t1 : wx.cell? ⟨w1.heap.size, 1, none⟩ = some (.int .i64 (fgHi dg tn)) := by simp [go_sem, *]
    have v0 : wx.cell? ⟨w.heap.size + 1 + 1, 0, none⟩ = some (.int .i64 0) := by simp [go_sem, *]
    have v1 : wx.cell? ⟨w.heap.size + 1 + 1, 1, none⟩ = some (.int .i64 0) := by simp [go_sem, *]
    have vf0 : wx.frozen? ⟨w.heap.size + 1 + 1, 0, none⟩ = false := by simp [go_sem, *]
    have vf1 : wx.frozen? ⟨w.heap.size + 1 + 1, 1, none⟩ = false := by simp [go_sem, *]
    go_wp2
    go_quiet (fail)
    go_wp2
    go_quiet (fail)
    by_cases hm : (fgLo dg tn - fgHi C.dg C.tn) * (C.lf * C.rt) < (fgHi dg tn - fgLo C.dg C.tn) * (C.lf * C.rt)
    · have HL := Lib.hid (hL _ _ (mn_le (Int.le_of_lt hm)) (mx_le (Int.le_of_lt hm)))
      clear hL
      go_wp2_with fail
      go_at_call 134; refine (down_c _ _ (by omega) (by omega) (by omega) (by omega) (by omega) _).mono ?_; rintro e w' ⟨rfl, rfl⟩
      rw [HL.out.1]
      go_wp2_with fail
      go_at_call 98; refine (up_c _ _ (by omega) (by omega) (by omega) (by omega) (by omega) _).mono ?_; rintro e w' ⟨rfl, rfl⟩
      rw [HL.out.2]
      rcases pl_cases C 2 dg tn with ⟨j1, j2, HP⟩ | ⟨j1, j2, HP⟩ | ⟨j1, HP⟩
      · go_wp2_with (first | (go_at_call 158; refine (isPlace_d _ _).mono ?_; rintro e w' ⟨rfl, rfl⟩))
        refine bodyPost_ret (v := .tuple #[.agg #[.int .i64 (cpL C 2 dg tn), .int .i64 (cpH C 2 dg tn)], .int .i64 0]) (by simp [results, Tryz.results144, go_sem, *]) rfl ⟨by rw [HP.out.1, HP.out.2.1, HP.out.2.2], by repeat (with_reducible first | exact Below.refl _ _ | assumption | refine Bel.alloc ?_ _ | refine Bel.step (by assumption) ?_ | refine Below.drew ?_ | refine Bel.drewN ?_ _ | refine Below.setCell ?_ (by first | exact Nat.le_refl _ | omega | (simp; done) | (simp; omega)) _)⟩
      · go_wp2_with (first | (go_at_call 158; refine (isPlace_d _ _).mono ?_; rintro e w' ⟨rfl, rfl⟩))
        refine bodyPost_ret (v := .tuple #[.agg #[.int .i64 0, .int .i64 0], .int .i64 3]) (by simp [results, Tryz.results144, go_sem, *]) rfl ⟨by rw [HP.out.1, HP.out.2.1, HP.out.2.2], by repeat (with_reducible first | exact Below.refl _ _ | assumption | refine Bel.alloc ?_ _ | refine Bel.step (by assumption) ?_ | refine Below.drew ?_ | refine Bel.drewN ?_ _ | refine Below.setCell ?_ (by first | exact Nat.le_refl _ | omega | (simp; done) | (simp; omega)) _)⟩
      · go_wp2_with (first | (go_at_call 158; refine (isPlace_d _ _).mono ?_; rintro e w' ⟨rfl, rfl⟩))
        refine bodyPost_ret (v := .tuple #[.agg #[.int .i64 0, .int .i64 0], .int .i64 3]) (by simp [results, Tryz.results144, go_sem, *]) rfl ⟨by rw [HP.out.1, HP.out.2.1, HP.out.2.2], by repeat (with_reducible first | exact Below.refl _ _ | assumption | refine Bel.alloc ?_ _ | refine Bel.step (by assumption) ?_ | refine Below.drew ?_ | refine Bel.drewN ?_ _ | refine Below.setCell ?_ (by first | exact Nat.le_refl _ | omega | (simp; done) | (simp; omega)) _)⟩
    · by_cases hg : (fgHi dg tn - fgLo C.dg C.tn) * (C.lf * C.rt) < (fgLo dg tn - fgHi C.dg C.tn) * (C.lf * C.rt)
      · have HL := Lib.hid (hL _ _ (mn_ge (Int.le_of_lt hg)) (mx_ge (Int.le_of_lt hg)))
        clear hL hm
        go_wp2_with fail
        go_at_call 134; refine (down_c _ _ (by omega) (by omega) (by omega) (by omega) (by omega) _).mono ?_; rintro e w' ⟨rfl, rfl⟩
        rw [HL.out.1]
        go_wp2_with fail
        go_at_call 98; refine (up_c _ _ (by omega) (by omega) (by omega) (by omega) (by omega) _).mono ?_; rintro e w' ⟨rfl, rfl⟩
        rw [HL.out.2]
        rcases pl_cases C 2 dg tn with ⟨j1, j2, HP⟩ | ⟨j1, j2, HP⟩ | ⟨j1, HP⟩
        · go_wp2_with (first | (go_at_call 158; refine (isPlace_d _ _).mono ?_; rintro e w' ⟨rfl, rfl⟩))
          refine bodyPost_ret (v := .tuple #[.agg #[.int .i64 (cpL C 2 dg tn), .int .i64 (cpH C 2 dg tn)], .int .i64 0]) (by simp [results, Tryz.results144, go_sem, *]) rfl ⟨by rw [HP.out.1, HP.out.2.1, HP.out.2.2], by repeat (with_reducible first | exact Below.refl _ _ | assumption | refine Bel.alloc ?_ _ | refine Bel.step (by assumption) ?_ | refine Below.drew ?_ | refine Bel.drewN ?_ _ | refine Below.setCell ?_ (by first | exact Nat.le_refl _ | omega | (simp; done) | (simp; omega)) _)⟩
        · go_wp2_with (first | (go_at_call 158; refine (isPlace_d _ _).mono ?_; rintro e w' ⟨rfl, rfl⟩))
          refine bodyPost_ret (v := .tuple #[.agg #[.int .i64 0, .int .i64 0], .int .i64 3]) (by simp [results, Tryz.results144, go_sem, *]) rfl ⟨by rw [HP.out.1, HP.out.2.1, HP.out.2.2], by repeat (with_reducible first | exact Below.refl _ _ | assumption | refine Bel.alloc ?_ _ | refine Bel.step (by assumption) ?_ | refine Below.drew ?_ | refine Bel.drewN ?_ _ | refine Below.setCell ?_ (by first | exact Nat.le_refl _ | omega | (simp; done) | (simp; omega)) _)⟩
        · go_wp2_with (first | (go_at_call 158; refine (isPlace_d _ _).mono ?_; rintro e w' ⟨rfl, rfl⟩))
          refine bodyPost_ret (v := .tuple #[.agg #[.int .i64 0, .int .i64 0], .int .i64 3]) (by simp [results, Tryz.results144, go_sem, *]) rfl ⟨by rw [HP.out.1, HP.out.2.1, HP.out.2.2], by repeat (with_reducible first | exact Below.refl _ _ | assumption | refine Bel.alloc ?_ _ | refine Bel.step (by assumption) ?_ | refine Below.drew ?_ | refine Bel.drewN ?_ _ | refine Below.setCell ?_ (by first | exact Nat.le_refl _ | omega | (simp; done) | (simp; omega)) _)⟩
      · have he : (fgHi dg tn - fgLo C.dg C.tn) * (C.lf * C.rt) = (fgLo dg tn - fgHi C.dg C.tn) * (C.lf * C.rt) := by omega
        have HL := Lib.hid (hL ((fgLo dg tn - fgHi C.dg C.tn) * (C.lf * C.rt)) ((fgLo dg tn - fgHi C.dg C.tn) * (C.lf * C.rt)) (by rw [he]; simp [mn]) (by rw [he]; simp [mx]))
        clear hL hm hg p3 p4
        rw [he] at e2 ⊢
        clear e2
        go_wp2_with fail
        go_at_call 134; refine (down_c _ _ (by omega) (by omega) (by omega) (by omega) (by omega) _).mono ?_; rintro e w' ⟨rfl, rfl⟩
        rw [HL.out.1]
        go_wp2_with fail
        go_at_call 98; refine (up_c _ _ (by omega) (by omega) (by omega) (by omega) (by omega) _).mono ?_; rintro e w' ⟨rfl, rfl⟩
        rw [HL.out.2]
        rcases pl_cases C 2 dg tn with ⟨j1, j2, HP⟩ | ⟨j1, j2, HP⟩ | ⟨j1, HP⟩
        · go_wp2_with (first | (go_at_call 158; refine (isPlace_d _ _).mono ?_; rintro e w' ⟨rfl, rfl⟩))
          refine bodyPost_ret (v := .tuple #[.agg #[.int .i64 (cpL C 2 dg tn), .int .i64 (cpH C 2 dg tn)], .int .i64 0]) (by simp [results, Tryz.results144, go_sem, *]) rfl ⟨by rw [HP.out.1, HP.out.2.1, HP.out.2.2], by repeat (with_reducible first | exact Below.refl _ _ | assumption | refine Bel.alloc ?_ _ | refine Bel.step (by assumption) ?_ | refine Below.drew ?_ | refine Bel.drewN ?_ _ | refine Below.setCell ?_ (by first | exact Nat.le_refl _ | omega | (simp; done) | (simp; omega)) _)⟩
        · go_wp2_with (first | (go_at_call 158; refine (isPlace_d _ _).mono ?_; rintro e w' ⟨rfl, rfl⟩))
          refine bodyPost_ret (v := .tuple #[.agg #[.int .i64 0, .int .i64 0], .int .i64 3]) (by simp [results, Tryz.results144, go_sem, *]) rfl ⟨by rw [HP.out.1, HP.out.2.1, HP.out.2.2], by repeat (with_reducible first | exact Below.refl _ _ | assumption | refine Bel.alloc ?_ _ | refine Bel.step (by assumption) ?_ | refine Below.drew ?_ | refine Bel.drewN ?_ _ | refine Below.setCell ?_ (by first | exact Nat.le_refl _ | omega | (simp; done) | (simp; omega)) _)⟩
        · go_wp2_with (first | (go_at_call 158; refine (isPlace_d _ _).mono ?_; rintro e w' ⟨rfl, rfl⟩))
          refine bodyPost_ret (v := .tuple #[.agg #[.int .i64 0, .int .i64 0], .int .i64 3]) (by simp [results, Tryz.results144, go_sem, *]) rfl ⟨by rw [HP.out.1, HP.out.2.1, HP.out.2.2], by repeat (with_reducible first | exact Below.refl _ _ | assumption | refine Bel.alloc ?_ _ | refine Bel.step (by assumption) ?_ | refine Below.drew ?_ | refine Bel.drewN ?_ _ | refine Below.setCell ?_ (by first | exact Nat.le_refl _ | omega | (simp; done) | (simp; omega)) _)⟩
open Go.RowKit
set_option linter.unusedVariables false
theorem chartPlace_c (C : Ch) (A : Option Addr) (c : Nat) (sc dg tn : Int) (h : okCh C = true) (hf : okF dg tn = true) (hs : inB sc 0 2 = true) (w : World) (hA : Ints w A C.zs) :
    Calls Tryz.prog 144 #[.agg #[.int .i64 C.dg, .int .i64 C.tn, .string C.nm, .slice A C.zs.length c, .int .i64 C.wd, .int .i64 C.lf, .int .i64 C.rt], .int .i64 sc, .agg #[.int .i64 dg, .int .i64 tn]] w fun r w' => r = .returned (.tuple #[.agg #[.int .i64 (plL C sc dg tn), .int .i64 (plH C sc dg tn)], .int .i64 (plC C sc dg tn)]) ∧ Below w.heap.size w w' := by
  rcases sc_cases hs with rfl | rfl | rfl
  · exact chartPlace_0 C A c dg tn h hf w hA
  · exact chartPlace_1 C A c dg tn h hf w hA
  · exact chartPlace_2 C A c dg tn h hf w hA
end Go.Proofs.YtpmcgicopogbhaaGreat
