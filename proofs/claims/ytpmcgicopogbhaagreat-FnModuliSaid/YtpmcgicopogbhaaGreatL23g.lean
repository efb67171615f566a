/- Chapter 23: points of figures on a chart. Conditions: as stated at each contract. -/
import Derived.Test.YtpmcgicopogbhaaGreatProg
import Derived.Test.YtpmcgicopogbhaaGreatBase
import Derived.Test.YtpmcgicopogbhaaGreatZy
import Derived.Test.YtpmcgicopogbhaaGreatTl
import Derived.Test.YtpmcgicopogbhaaGreatL01
import Derived.Test.YtpmcgicopogbhaaGreatCp
import Derived.Test.YtpmcgicopogbhaaGreatL18
import Derived.Test.YtpmcgicopogbhaaGreatL23
import Derived.Test.YtpmcgicopogbhaaGreatL03
import Derived.Test.YtpmcgicopogbhaaGreatL23d
import Derived.Test.YtpmcgicopogbhaaGreatL23e
import Derived.Test.YtpmcgicopogbhaaGreatL24
import Derived.WalkKit
import Derived.WalkSpells
import Derived.WalkLawsBesides
import Derived.Lib.Hide
import Derived.Deep.QuietTactic
import Derived.BigQuiet
import Derived.Deep.Draws
import Derived.Deep.RegionHeld3
import Derived.StillTailTactics
namespace Go.Proofs.YtpmcgicopogbhaaGreat
set_option linter.unusedSimpArgs false
open Go.RowKit
set_option linter.unusedVariables false
/-- The x of a scale. -/
def cxX (C : Ch) (sc : Int) : Int := if sc = 0 then 0 else if sc = 1 then C.wd else Nr (C.wd * C.lf) (C.lf + C.rt)
def ppX (C : Ch) (sc dg tn : Int) : Int := if plC C sc dg tn = 0 then cxX C sc else 0
def ppY (C : Ch) (sc dg tn : Int) : Int := if plC C sc dg tn = 0 then Fl (plL C sc dg tn + plH C sc dg tn) 2 else 0
def ptX (C : Ch) (sc dg tn : Int) : Int := if cqC C sc dg tn = 0 then cxX C sc else 0
def ptY (C : Ch) (sc dg tn : Int) : Int := if cqC C sc dg tn = 0 then Fl (cqL C sc dg tn + cqH C sc dg tn) 2 else 0
theorem cq_0 {C : Ch} {sc dg tn : Int} (h : cqC C sc dg tn = 0) : ckC C sc (okF dg tn) = 0 ∧ plC C sc dg tn = 0 := by
  unfold cqC at h
  split at h
  · exact ⟨by assumption, h⟩
  · exact absurd h (by assumption)
theorem pt_pp {C : Ch} {sc dg tn : Int} (h : ckC C sc (okF dg tn) = 0) : ptX C sc dg tn = ppX C sc dg tn ∧ ptY C sc dg tn = ppY C sc dg tn ∧ cqC C sc dg tn = plC C sc dg tn := by
  obtain ⟨e1, e2, e3⟩ := cq_pl h
  exact ⟨by simp [ptX, ppX, e1], by simp [ptY, ppY, e1, e2, e3], e1⟩
theorem pt_no {C : Ch} {sc dg tn : Int} (h : cqC C sc dg tn ≠ 0) : ptX C sc dg tn = 0 ∧ ptY C sc dg tn = 0 := ⟨by simp [ptX, h], by simp [ptY, h]⟩
theorem wl_bd {C : Ch} (h : okCh C = true) : 1 ≤ C.wd * C.lf ∧ C.wd * C.lf ≤ 2000000000 := by
  obtain ⟨_, _, ⟨a5, a6⟩, ⟨a1, a2⟩, _, _, _⟩ := okCh_iff h
  have := mul_pos_bd (A := 100000) (B := 20000) (show 1 ≤ C.wd by omega) a6 (show 1 ≤ C.lf by omega) a2
  omega
theorem l23Column_c (C : Ch) (A : Option Addr) (c : Nat) (sc : Int) (h : okCh C = true) (hs : inB sc 0 2 = true) (w : World) :
    Calls Tryz.prog 147 #[.agg #[.int .i64 C.dg, .int .i64 C.tn, .string C.nm, .slice A C.zs.length c, .int .i64 C.wd, .int .i64 C.lf, .int .i64 C.rt], .int .i64 sc] w fun r w' => r = .returned (.int .i64 (cxX C sc)) ∧ Below w.heap.size w w' := by
  obtain ⟨m1, m2⟩ := wl_bd h
  obtain ⟨_, _, ⟨a5, a6⟩, ⟨a1, a2⟩, ⟨a3, a4⟩, _, _⟩ := okCh_iff h
  have e1 : IntKind.i64.wrap (C.wd * C.lf) = C.wd * C.lf := wr64 (by omega) (by omega)
  rcases sc_cases hs with rfl | rfl | rfl
  · go_enter Tryz.func147, Tryz.ntmps147
    go_wp2
    go_ret
    exact ⟨rfl, by repeat (with_reducible first | exact Below.refl _ _ | assumption | refine Bel.alloc ?_ _ | refine Bel.step (by assumption) ?_ | refine Below.drew ?_ | refine Bel.drewN ?_ _ | refine Below.setCell ?_ (by first | exact Nat.le_refl _ | omega | (simp; done) | (simp; omega)) _)⟩
  · go_enter Tryz.func147, Tryz.ntmps147
    go_wp2
    go_ret
    exact ⟨rfl, by repeat (with_reducible first | exact Below.refl _ _ | assumption | refine Bel.alloc ?_ _ | refine Bel.step (by assumption) ?_ | refine Below.drew ?_ | refine Bel.drewN ?_ _ | refine Below.setCell ?_ (by first | exact Nat.le_refl _ | omega | (simp; done) | (simp; omega)) _)⟩
  · go_enter Tryz.func147, Tryz.ntmps147
    go_wp2_with (first | (go_at_call 162; refine (l01Nearest_c _ _ (by omega) (by omega) (by omega) (by omega) (by omega) _).mono ?_; rintro e w' ⟨rfl, rfl⟩))
    go_ret
    exact ⟨rfl, by repeat (with_reducible first | exact Below.refl _ _ | assumption | refine Bel.alloc ?_ _ | refine Bel.step (by assumption) ?_ | refine Below.drew ?_ | refine Bel.drewN ?_ _ | refine Below.setCell ?_ (by first | exact Nat.le_refl _ | omega | (simp; done) | (simp; omega)) _)⟩
theorem ChartPoint_S (C : Ch) (A : Option Addr) (c : Nat) (sc dg tn : Int) (hn : C.zs.length ≤ 1048576) (hm : C.nm.size ≤ 1048576) (w : World) (hA : Ints w A C.zs) :
    Calls Tryz.prog 121 #[.agg #[.int .i64 C.dg, .int .i64 C.tn, .string C.nm, .slice A C.zs.length c, .int .i64 C.wd, .int .i64 C.lf, .int .i64 C.rt], .int .i64 sc, .agg #[.int .i64 dg, .int .i64 tn]] w fun r w' => r = .returned (.tuple #[.agg #[.int .i64 (ptX C sc dg tn), .int .i64 (ptY C sc dg tn)], .int .i64 (cqC C sc dg tn)]) ∧ Below w.heap.size w w' := by
  by_cases hk : cqC C sc dg tn = 0
  · have HQ := Lib.hid (show ptX C sc dg tn = cxX C sc ∧ ptY C sc dg tn = Fl (cqL C sc dg tn + cqH C sc dg tn) 2 by simp [ptX, ptY, hk])
    obtain ⟨k1, k2⟩ := cq_0 hk
    obtain ⟨h, hf, hs⟩ := ckC_0 k1
    obtain ⟨⟨b1, b2⟩, b3, b4⟩ := pl_bd k2
    obtain ⟨_, e2, e3⟩ := cq_pl k1
    rw [← e2] at b1 b2
    rw [← e3] at b3 b4
    have ew : IntKind.i64.wrap (cqL C sc dg tn + cqH C sc dg tn) = cqL C sc dg tn + cqH C sc dg tn := wr64 (by omega) (by omega)
    have HK := Lib.hid hk
    clear hk k1 k2 e2 e3
    go_enter Tryz.func121, Tryz.ntmps121
    go_wp2_with fail
    go_at_call 146; refine (ChartPlace_S _ _ _ _ _ _ hn hm _ (Ints.alloc _ (Ints.alloc _ (Ints.alloc _ hA)))).mono ?_; rintro e w1 ⟨rfl, hb1⟩; obtain ⟨hc1, hf1, hz1⟩ := bel hb1; (try simp only [World.size_drew, World.cell?_drew, World.frozen?_drew, World.heap_drewN, World.cell?_drewN, World.frozen?_drewN] at hc1 hf1 hz1); (try have hl1 : w.heap.size < w1.heap.size := zl hb1); (try have hm1 : w.heap.size + 1 < w1.heap.size := zl hb1); (try have hn1 : w.heap.size + 1 + 1 < w1.heap.size := zl hb1); (try have hp1 : b < w1.heap.size := zl hb1); (try have ho1 : b' < w1.heap.size := by (have hq := hb1.size; (try simp at hq); omega))
    rw [HK.out]
    have q0 : w1.cell? ⟨w.heap.size, 0, none⟩ = some (.int .i64 C.dg) := by simp [go_sem, *]
    have q1 : w1.cell? ⟨w.heap.size, 1, none⟩ = some (.int .i64 C.tn) := by simp [go_sem, *]
    have q2 : w1.cell? ⟨w.heap.size, 2, none⟩ = some (.string C.nm) := by simp [go_sem, *]
    have q3 : w1.cell? ⟨w.heap.size, 3, none⟩ = some (.slice A C.zs.length c) := by simp [go_sem, *]
    have q4 : w1.cell? ⟨w.heap.size, 4, none⟩ = some (.int .i64 C.wd) := by simp [go_sem, *]
    have q5 : w1.cell? ⟨w.heap.size, 5, none⟩ = some (.int .i64 C.lf) := by simp [go_sem, *]
    have q6 : w1.cell? ⟨w.heap.size, 6, none⟩ = some (.int .i64 C.rt) := by simp [go_sem, *]
    have r0 : w1.cell? ⟨w.heap.size + 1 + 1, 0, none⟩ = some (.int .i64 0) := by simp [go_sem, *]
    have r1 : w1.cell? ⟨w.heap.size + 1 + 1, 1, none⟩ = some (.int .i64 0) := by simp [go_sem, *]
    have g0 : w1.frozen? ⟨w.heap.size + 1 + 1, 0, none⟩ = false := by simp [go_sem, *]
    have g1 : w1.frozen? ⟨w.heap.size + 1 + 1, 1, none⟩ = false := by simp [go_sem, *]
    have hbel1 : Below w.heap.size w w1 := by repeat (with_reducible first | exact Below.refl _ _ | assumption | refine Bel.alloc ?_ _ | refine Bel.step (by assumption) ?_ | refine Below.drew ?_ | refine Bel.drewN ?_ _ | refine Below.setCell ?_ (by first | exact Nat.le_refl _ | omega | (simp; done) | (simp; omega)) _)
    clear hb1 hc1 hf1 hz1
    go_wp2
    generalize hV : w1.alloc (.cells #[.int .i64 (cqL C sc dg tn), .int .i64 (cqH C sc dg tn)] 92) = V
    have hbV : Below w1.heap.size w1 V := by rw [← hV]; repeat (with_reducible first | exact Below.refl _ _ | assumption | refine Bel.alloc ?_ _ | refine Bel.step (by assumption) ?_ | refine Below.drew ?_ | refine Bel.drewN ?_ _ | refine Below.setCell ?_ (by first | exact Nat.le_refl _ | omega | (simp; done) | (simp; omega)) _)
    have t0 : V.cell? ⟨w1.heap.size, 0, none⟩ = some (.int .i64 (cqL C sc dg tn)) := by rw [← hV]; simp [go_sem]
    have t1 : V.cell? ⟨w1.heap.size, 1, none⟩ = some (.int .i64 (cqH C sc dg tn)) := by rw [← hV]; simp [go_sem]
    have tl : w1.heap.size < V.heap.size := by rw [← hV]; simp
    obtain ⟨hc1, hf1, hz1⟩ := bel hbV
    have hbelV := Bel.step hbV hbel1
    have s0 := (hc1 _ _ hl1).trans q0
    have s1 := (hc1 _ _ hl1).trans q1
    have s2 := (hc1 _ _ hl1).trans q2
    have s3 := (hc1 _ _ hl1).trans q3
    have s4 := (hc1 _ _ hl1).trans q4
    have s5 := (hc1 _ _ hl1).trans q5
    have s6 := (hc1 _ _ hl1).trans q6
    have v0 := (hc1 _ _ hn1).trans r0
    have v1 := (hc1 _ _ hn1).trans r1
    have vf0 := (hf1 _ _ hn1).trans g0
    have vf1 := (hf1 _ _ hn1).trans g1
    have k1 := hz1 _ hl1
    have k2 := hz1 _ hn1
    clear hV hbV hc1 hf1 hz1 q0 q1 q2 q3 q4 q5 q6 r0 r1 g0 g1
    go_region_held3 (fun w' => (w'.cell? ⟨w.heap.size, 0, none⟩ = some (.int .i64 C.dg) ∧ w'.cell? ⟨w.heap.size, 1, none⟩ = some (.int .i64 C.tn) ∧ w'.cell? ⟨w.heap.size, 2, none⟩ = some (.string C.nm) ∧ w'.cell? ⟨w.heap.size, 3, none⟩ = some (.slice A C.zs.length c) ∧ w'.cell? ⟨w.heap.size, 4, none⟩ = some (.int .i64 C.wd) ∧ w'.cell? ⟨w.heap.size, 5, none⟩ = some (.int .i64 C.lf) ∧ w'.cell? ⟨w.heap.size, 6, none⟩ = some (.int .i64 C.rt)) ∧ w'.cell? ⟨w1.heap.size, 0, none⟩ = some (.int .i64 (cqL C sc dg tn)) ∧ w'.cell? ⟨w1.heap.size, 1, none⟩ = some (.int .i64 (cqH C sc dg tn))) (simp [go_sem, *])
        (first | (go_at_call 147; refine (l23Column_c _ _ _ _ h hs _).mono ?_; rintro e wx ⟨rfl, hbx⟩; obtain ⟨hcx, hfx, hzx⟩ := bel hbx; (try simp only [World.size_drew, World.cell?_drew, World.frozen?_drew, World.heap_drewN, World.cell?_drewN, World.frozen?_drewN] at hcx hfx hzx); (try have hlx : w.heap.size < wx.heap.size := zl hbx); (try have hmx : w.heap.size + 1 < wx.heap.size := zl hbx); (try have hnx : w.heap.size + 1 + 1 < wx.heap.size := zl hbx); (try have hpx : b < wx.heap.size := zl hbx); (try have hox : b' < wx.heap.size := by (have hq := hbx.size; (try simp at hq); omega))) | (go_at_call 135; refine (l01Floor_c _ _ (by omega) (by omega) (by omega) (by omega) (by omega) _).mono ?_; rintro e w' ⟨rfl, rfl⟩))
    all_goals
      have u0 : wx.cell? ⟨w.heap.size + 1 + 1, 0, none⟩ = some (.int .i64 0) := by simp [go_sem, *]
      have u1 : wx.cell? ⟨w.heap.size + 1 + 1, 1, none⟩ = some (.int .i64 0) := by simp [go_sem, *]
      go_wp2
      refine bodyPost_ret (v := .tuple #[.agg #[.int .i64 (cxX C sc), .int .i64 (Fl (cqL C sc dg tn + cqH C sc dg tn) 2)], .int .i64 0]) (by simp [results, Tryz.results121, go_sem, *]) rfl ⟨by rw [HQ.out.1, HQ.out.2, HK.out], by repeat (with_reducible first | exact Below.refl _ _ | assumption | refine Bel.alloc ?_ _ | refine Bel.step (by assumption) ?_ | refine Below.drew ?_ | refine Bel.drewN ?_ _ | refine Below.setCell ?_ (by first | exact Nat.le_refl _ | omega | (simp; done) | (simp; omega)) _)⟩
  · have HQ := Lib.hid (pt_no hk)
    have b1 : (cqC C sc dg tn != 0) = true := by simpa using hk
    clear hk
    go_enter Tryz.func121, Tryz.ntmps121
    go_wp2_with fail
    go_at_call 146; refine (ChartPlace_S _ _ _ _ _ _ hn hm _ (Ints.alloc _ (Ints.alloc _ (Ints.alloc _ hA)))).mono ?_; rintro e w1 ⟨rfl, hb1⟩; obtain ⟨hc1, hf1, hz1⟩ := bel hb1; (try simp only [World.size_drew, World.cell?_drew, World.frozen?_drew, World.heap_drewN, World.cell?_drewN, World.frozen?_drewN] at hc1 hf1 hz1); (try have hl1 : w.heap.size < w1.heap.size := zl hb1); (try have hm1 : w.heap.size + 1 < w1.heap.size := zl hb1); (try have hn1 : w.heap.size + 1 + 1 < w1.heap.size := zl hb1); (try have hp1 : b < w1.heap.size := zl hb1); (try have ho1 : b' < w1.heap.size := by (have hq := hb1.size; (try simp at hq); omega))
    go_wp2
    refine bodyPost_ret (v := .tuple #[.agg #[.int .i64 0, .int .i64 0], .int .i64 (cqC C sc dg tn)]) (by simp [results, Tryz.results121, go_sem, *]) rfl ⟨by rw [HQ.out.1, HQ.out.2], by repeat (with_reducible first | exact Below.refl _ _ | assumption | refine Bel.alloc ?_ _ | refine Bel.step (by assumption) ?_ | refine Below.drew ?_ | refine Bel.drewN ?_ _ | refine Below.setCell ?_ (by first | exact Nat.le_refl _ | omega | (simp; done) | (simp; omega)) _)⟩
/-- A fact that the walk does not look into. -/
structure BoxCp (P : Prop) : Prop where
  out : P
theorem cut_Cp {G : Prop} (P : Prop) (k : BoxCp P → G) (h : P) : G := k ⟨h⟩
set_option maxRecDepth 50000 in
set_option maxHeartbeats 1000000 in
theorem chartPoint_c (C : Ch) (A : Option Addr) (c : Nat) (sc dg tn : Int) (h : okCh C = true) (hf : okF dg tn = true) (hs : inB sc 0 2 = true) (w : World) (hA : Ints w A C.zs) :
    Calls Tryz.prog 119 #[.agg #[.int .i64 C.dg, .int .i64 C.tn, .string C.nm, .slice A C.zs.length c, .int .i64 C.wd, .int .i64 C.lf, .int .i64 C.rt], .int .i64 sc, .agg #[.int .i64 dg, .int .i64 tn]] w fun r w' => r = .returned (.tuple #[.agg #[.int .i64 (ppX C sc dg tn), .int .i64 (ppY C sc dg tn)], .int .i64 (plC C sc dg tn)]) ∧ Below w.heap.size w w' := by
  by_cases hk : plC C sc dg tn = 0
  · have HQ := Lib.hid (show ppX C sc dg tn = cxX C sc ∧ ppY C sc dg tn = Fl (plL C sc dg tn + plH C sc dg tn) 2 by simp [ppX, ppY, hk])
    obtain ⟨⟨b1, b2⟩, b3, b4⟩ := pl_bd hk
    obtain ⟨m1, m2⟩ := wl_bd h
    obtain ⟨_, _, ⟨a5, a6⟩, ⟨a1, a2⟩, ⟨a3, a4⟩, _, _⟩ := okCh_iff h
    have e1 : IntKind.i64.wrap (C.wd * C.lf) = C.wd * C.lf := wr64 (by omega) (by omega)
    have e2 : IntKind.i64.wrap (C.lf + C.rt) = C.lf + C.rt := wr64 (by omega) (by omega)
    have HK := Lib.hid hk
    clear hk
    go_enter Tryz.func119, Tryz.ntmps119
    go_wp2_with fail
    go_at_call 144; refine (chartPlace_c _ _ _ _ _ _ h hf hs _ (Ints.alloc _ (Ints.alloc _ (Ints.alloc _ hA)))).mono ?_; rintro e w1 ⟨rfl, hb1⟩; obtain ⟨hc1, hf1, hz1⟩ := bel hb1; (try simp only [World.size_drew, World.cell?_drew, World.frozen?_drew, World.heap_drewN, World.cell?_drewN, World.frozen?_drewN] at hc1 hf1 hz1); (try have hl1 : w.heap.size < w1.heap.size := zl hb1); (try have hm1 : w.heap.size + 1 < w1.heap.size := zl hb1); (try have hn1 : w.heap.size + 1 + 1 < w1.heap.size := zl hb1); (try have hp1 : b < w1.heap.size := zl hb1); (try have ho1 : b' < w1.heap.size := by (have hq := hb1.size; (try simp at hq); omega))
    rw [HK.out]
    have q4 : w1.cell? ⟨w.heap.size, 4, none⟩ = some (.int .i64 C.wd) := by simp [go_sem, *]
    have q5 : w1.cell? ⟨w.heap.size, 5, none⟩ = some (.int .i64 C.lf) := by simp [go_sem, *]
    have q6 : w1.cell? ⟨w.heap.size, 6, none⟩ = some (.int .i64 C.rt) := by simp [go_sem, *]
    have r0 : w1.cell? ⟨w.heap.size + 1 + 1, 0, none⟩ = some (.int .i64 0) := by simp [go_sem, *]
    have r1 : w1.cell? ⟨w.heap.size + 1 + 1, 1, none⟩ = some (.int .i64 0) := by simp [go_sem, *]
    have g0 : w1.frozen? ⟨w.heap.size + 1 + 1, 0, none⟩ = false := by simp [go_sem, *]
    have g1 : w1.frozen? ⟨w.heap.size + 1 + 1, 1, none⟩ = false := by simp [go_sem, *]
    have hbel1 : Below w.heap.size w w1 := by repeat (with_reducible first | exact Below.refl _ _ | assumption | refine Bel.alloc ?_ _ | refine Bel.step (by assumption) ?_ | refine Below.drew ?_ | refine Bel.drewN ?_ _ | refine Below.setCell ?_ (by first | exact Nat.le_refl _ | omega | (simp; done) | (simp; omega)) _)
    clear hb1 hc1 hf1 hz1
    go_wp2
    generalize hV : w1.alloc (.cells #[.int .i64 (plL C sc dg tn), .int .i64 (plH C sc dg tn)] 92) = V
    have hbV : Below w1.heap.size w1 V := by rw [← hV]; repeat (with_reducible first | exact Below.refl _ _ | assumption | refine Bel.alloc ?_ _ | refine Bel.step (by assumption) ?_ | refine Below.drew ?_ | refine Bel.drewN ?_ _ | refine Below.setCell ?_ (by first | exact Nat.le_refl _ | omega | (simp; done) | (simp; omega)) _)
    have t0 : V.cell? ⟨w1.heap.size, 0, none⟩ = some (.int .i64 (plL C sc dg tn)) := by rw [← hV]; simp [go_sem]
    have t1 : V.cell? ⟨w1.heap.size, 1, none⟩ = some (.int .i64 (plH C sc dg tn)) := by rw [← hV]; simp [go_sem]
    have tl : w1.heap.size < V.heap.size := by rw [← hV]; simp
    obtain ⟨hc1, hf1, hz1⟩ := bel hbV
    have hbelV := Bel.step hbV hbel1
    have s4 := (hc1 _ _ hl1).trans q4
    have s5 := (hc1 _ _ hl1).trans q5
    have s6 := (hc1 _ _ hl1).trans q6
    have v0 := (hc1 _ _ hn1).trans r0
    have v1 := (hc1 _ _ hn1).trans r1
    have vf0 := (hf1 _ _ hn1).trans g0
    have vf1 := (hf1 _ _ hn1).trans g1
    have k1 := hz1 _ hl1
    have k2 := hz1 _ hn1
    clear hV hbV hc1 hf1 hz1 q4 q5 q6 r0 r1 g0 g1
    set_option maxRecDepth 20000 in refine wp_region_tailX 13 14 [13, 15, 16, 17] (by kernel_rfl) (by kernel_rfl) rfl (fun v c a w h => h) (v := .int .i64 sc) (Or.inl ⟨by simp [Region.wanted], fun w => by simp [go_sem, execOp]⟩) ?_
    simp only [List.take_succ_cons, List.take_zero, List.filterMap_cons, List.filterMap_nil, List.getElem?_cons_succ, List.getElem?_cons_zero]
    set_option maxRecDepth 20000 in repeat still_step
    refine wpStill_step (fun K hK => ?_)
    go_simp
    refine ⟨_, (near_c (C.wd * C.lf) (C.lf + C.rt) (by omega) (by omega) (by omega) (by omega) (by omega) _).mono fun _ _ ⟨he, hw⟩ => ⟨he, hw.symm⟩, hK _ ?_⟩
    clear hK K
    refine wpStill_nil ?_
    have HN := Lib.hid (show cxX C 2 = Nr (C.wd * C.lf) (C.lf + C.rt) from rfl)
    obtain ⟨n1, n2⟩ := Nr_bd (C.wd * C.lf) (C.lf + C.rt) 5000000000 (by omega) (by omega)
    generalize Nr (C.wd * C.lf) (C.lf + C.rt) = N at *
    clear m1 m2 e1 e2
    change wpList _ _ _ _ _ V.drew
    generalize hU : V.drew = U
    have hbU : Below V.heap.size V U := by rw [← hU]; repeat (with_reducible first | exact Below.refl _ _ | assumption | refine Bel.alloc ?_ _ | refine Bel.step (by assumption) ?_ | refine Below.drew ?_ | refine Bel.drewN ?_ _ | refine Below.setCell ?_ (by first | exact Nat.le_refl _ | omega | (simp; done) | (simp; omega)) _)
    have hbelU := Bel.step hbU hbelV
    have t0 : U.cell? ⟨w1.heap.size, 0, none⟩ = some (.int .i64 (plL C sc dg tn)) := by rw [← hU]; simpa using t0
    have t1 : U.cell? ⟨w1.heap.size, 1, none⟩ = some (.int .i64 (plH C sc dg tn)) := by rw [← hU]; simpa using t1
    have v0 : U.cell? ⟨w.heap.size + 1 + 1, 0, none⟩ = some (.int .i64 0) := by rw [← hU]; simpa using v0
    have v1 : U.cell? ⟨w.heap.size + 1 + 1, 1, none⟩ = some (.int .i64 0) := by rw [← hU]; simpa using v1
    have vf0 : U.frozen? ⟨w.heap.size + 1 + 1, 0, none⟩ = false := by rw [← hU]; simpa using vf0
    have vf1 : U.frozen? ⟨w.heap.size + 1 + 1, 1, none⟩ = false := by rw [← hU]; simpa using vf1
    have k1 : w.heap.size + 1 + 1 < U.heap.size := by rw [← hU]; simpa using k2
    have k3 : w1.heap.size < U.heap.size := by rw [← hU]; simpa using tl
    clear hU hbU s4 s5 s6 hbelV k2 tl
    rcases sc_cases hs with rfl | rfl | rfl
    · have HX := Lib.hid (show cxX C 0 = 0 from rfl)
      go_wp2_with (first | (go_at_call 134; refine (down_c _ _ (by omega) (by omega) (by omega) (by omega) (by omega) _).mono ?_; rintro e w' ⟨rfl, rfl⟩))
      refine bodyPost_ret (v := .tuple #[.agg #[.int .i64 (0), .int .i64 (Fl (plL C 0 dg tn + plH C 0 dg tn) 2)], .int .i64 0]) (by simp [results, Tryz.results119, go_sem, *]) rfl ⟨by rw [HQ.out.1, HQ.out.2, HX.out, HK.out], by repeat (with_reducible first | exact Below.refl _ _ | assumption | refine Bel.alloc ?_ _ | refine Bel.step (by assumption) ?_ | refine Below.drew ?_ | refine Bel.drewN ?_ _ | refine Below.setCell ?_ (by first | exact Nat.le_refl _ | omega | (simp; done) | (simp; omega)) _)⟩
    · have HX := Lib.hid (show cxX C 1 = C.wd from rfl)
      go_wp2_with (first | (go_at_call 134; refine (down_c _ _ (by omega) (by omega) (by omega) (by omega) (by omega) _).mono ?_; rintro e w' ⟨rfl, rfl⟩))
      refine bodyPost_ret (v := .tuple #[.agg #[.int .i64 (C.wd), .int .i64 (Fl (plL C 1 dg tn + plH C 1 dg tn) 2)], .int .i64 0]) (by simp [results, Tryz.results119, go_sem, *]) rfl ⟨by rw [HQ.out.1, HQ.out.2, HX.out, HK.out], by repeat (with_reducible first | exact Below.refl _ _ | assumption | refine Bel.alloc ?_ _ | refine Bel.step (by assumption) ?_ | refine Below.drew ?_ | refine Bel.drewN ?_ _ | refine Below.setCell ?_ (by first | exact Nat.le_refl _ | omega | (simp; done) | (simp; omega)) _)⟩
    · have HX := Lib.hid (show cxX C 2 = N from HN.out)
      go_wp2_with (first | (go_at_call 134; refine (down_c _ _ (by omega) (by omega) (by omega) (by omega) (by omega) _).mono ?_; rintro e w' ⟨rfl, rfl⟩))
      refine bodyPost_ret (v := .tuple #[.agg #[.int .i64 (N), .int .i64 (Fl (plL C 2 dg tn + plH C 2 dg tn) 2)], .int .i64 0]) (by simp [results, Tryz.results119, go_sem, *]) rfl ⟨by rw [HQ.out.1, HQ.out.2, HX.out, HK.out], by repeat (with_reducible first | exact Below.refl _ _ | assumption | refine Bel.alloc ?_ _ | refine Bel.step (by assumption) ?_ | refine Below.drew ?_ | refine Bel.drewN ?_ _ | refine Below.setCell ?_ (by first | exact Nat.le_refl _ | omega | (simp; done) | (simp; omega)) _)⟩
  · have HQ := Lib.hid (show ppX C sc dg tn = 0 ∧ ppY C sc dg tn = 0 by simp [ppX, ppY, hk])
    have b1 : (plC C sc dg tn != 0) = true := by simpa using hk
    clear hk
    go_enter Tryz.func119, Tryz.ntmps119
    go_wp2_with fail
    go_at_call 144; refine (chartPlace_c _ _ _ _ _ _ h hf hs _ (Ints.alloc _ (Ints.alloc _ (Ints.alloc _ hA)))).mono ?_; rintro e w1 ⟨rfl, hb1⟩; obtain ⟨hc1, hf1, hz1⟩ := bel hb1; (try simp only [World.size_drew, World.cell?_drew, World.frozen?_drew, World.heap_drewN, World.cell?_drewN, World.frozen?_drewN] at hc1 hf1 hz1); (try have hl1 : w.heap.size < w1.heap.size := zl hb1); (try have hm1 : w.heap.size + 1 < w1.heap.size := zl hb1); (try have hn1 : w.heap.size + 1 + 1 < w1.heap.size := zl hb1); (try have hp1 : b < w1.heap.size := zl hb1); (try have ho1 : b' < w1.heap.size := by (have hq := hb1.size; (try simp at hq); omega))
    go_wp2
    refine bodyPost_ret (v := .tuple #[.agg #[.int .i64 0, .int .i64 0], .int .i64 (plC C sc dg tn)]) (by simp [results, Tryz.results119, go_sem, *]) rfl ⟨by rw [HQ.out.1, HQ.out.2], by repeat (with_reducible first | exact Below.refl _ _ | assumption | refine Bel.alloc ?_ _ | refine Bel.step (by assumption) ?_ | refine Below.drew ?_ | refine Bel.drewN ?_ _ | refine Below.setCell ?_ (by first | exact Nat.le_refl _ | omega | (simp; done) | (simp; omega)) _)⟩
end Go.Proofs.YtpmcgicopogbhaaGreat
