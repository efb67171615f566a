/- Chapter 26: charts with other moduli. Conditions: as stated at each contract. -/
import Derived.Test.YtpmcgicopogbhaaGreatProg
import Derived.Test.YtpmcgicopogbhaaGreatBase
import Derived.Test.YtpmcgicopogbhaaGreatZy
import Derived.Test.YtpmcgicopogbhaaGreatL01
import Derived.Test.YtpmcgicopogbhaaGreatCp
import Derived.Test.YtpmcgicopogbhaaGreatCm
import Derived.Test.YtpmcgicopogbhaaGreatL18
import Derived.Test.YtpmcgicopogbhaaGreatL23
import Derived.Test.YtpmcgicopogbhaaGreatL23b
import Derived.WalkKit
import Derived.WalkSpells
import Derived.WalkLawsBesides
import Derived.Lib.Hide
import Derived.Deep.QuietTactic
import Derived.BigQuiet
import Derived.Deep.Draws
import Derived.Deep.RegionHeld3
namespace Go.Proofs.YtpmcgicopogbhaaGreat
set_option linter.unusedSimpArgs false
open Go.RowKit
set_option linter.unusedVariables false
def wmC (C : Ch) (x y : Int) : Int := if okCh C then (if okCh { C with lf := x, rt := y } then 0 else 2) else 1
def wmV (C : Ch) (x y : Int) : Ch := if okCh C && okCh { C with lf := x, rt := y } then { C with lf := x, rt := y } else ZC
set_option maxHeartbeats 800000 in
theorem WithModuli_S (C : Ch) (A : Option Addr) (c : Nat) (x y : Int) (hn : C.zs.length ≤ 1048576) (hs : C.nm.size ≤ 1048576) (w : World) (hA : Ints w A C.zs) :
    Calls Tryz.prog 31 #[.agg #[.int .i64 C.dg, .int .i64 C.tn, .string C.nm, .slice A C.zs.length c, .int .i64 C.wd, .int .i64 C.lf, .int .i64 C.rt], .int .i64 x, .int .i64 y] w fun e w' => ∃ A' c', e = .returned (.tuple #[.agg #[.int .i64 (wmV C x y).dg, .int .i64 (wmV C x y).tn, .string (wmV C x y).nm, .slice A' (wmV C x y).zs.length c', .int .i64 (wmV C x y).wd, .int .i64 (wmV C x y).lf, .int .i64 (wmV C x y).rt], .int .i64 (wmC C x y)]) ∧ Own w' w.heap.size 2 (.slice A' (wmV C x y).zs.length c') (wmV C x y).zs ∧ Below w.heap.size w w' := by
  by_cases h1 : okCh C = true
  · obtain ⟨_, ⟨hz, _⟩, _⟩ := okCh_iff h1
    have h0 : 0 < C.zs.length := by omega
    go_enter Tryz.func31, Tryz.ntmps31
    go_wp2_with fail
    go_at_call 54; refine (IsChart_S _ _ _ hn hs _ (Ints.alloc _ (Ints.alloc _ hA))).mono ?_; rintro e w1 ⟨rfl, hb1⟩; obtain ⟨hc1, hf1, hz1⟩ := bel hb1; (try simp only [World.size_drew, World.cell?_drew, World.frozen?_drew, World.heap_drewN, World.cell?_drewN, World.frozen?_drewN] at hc1 hf1 hz1); (try have hl1 : w.heap.size < w1.heap.size := zl hb1); (try have hm1 : w.heap.size + 1 < w1.heap.size := zl hb1); (try have hn1 : w.heap.size + 1 + 1 < w1.heap.size := zl hb1); (try have hp1 : b < w1.heap.size := zl hb1); (try have ho1 : b' < w1.heap.size := by (have hq := hb1.size; (try simp at hq); omega))
    have HI := Lib.hid (Ints.step hb1 (Ints.alloc _ (Ints.alloc _ hA)))
    have hP := Blk.step hb1 (Blk.alloc (.cells #[.int .i64 ZC.dg, .int .i64 ZC.tn, .string ZC.nm, .slice none ZC.zs.length 0, .int .i64 ZC.wd, .int .i64 ZC.lf, .int .i64 ZC.rt] 30) (Blk.new w 30 #[.int .i64 C.dg, .int .i64 C.tn, .string C.nm, .slice A C.zs.length c, .int .i64 C.wd, .int .i64 C.lf, .int .i64 C.rt]))
    have hT1 : Blk w1 (w.heap.size + 1) 30 #[.int .i64 ZC.dg, .int .i64 ZC.tn, .string ZC.nm, .slice none ZC.zs.length 0, .int .i64 ZC.wd, .int .i64 ZC.lf, .int .i64 ZC.rt] := by
      have := Blk.new (w.alloc (.cells #[.int .i64 C.dg, .int .i64 C.tn, .string C.nm, .slice A C.zs.length c, .int .i64 C.wd, .int .i64 C.lf, .int .i64 C.rt] 30)) 30 #[.int .i64 ZC.dg, .int .i64 ZC.tn, .string ZC.nm, .slice none ZC.zs.length 0, .int .i64 ZC.wd, .int .i64 ZC.lf, .int .i64 ZC.rt]
      simp only [World.size_alloc] at this
      exact Blk.step hb1 this
    have hbel1 : Below w.heap.size w w1 := by repeat (with_reducible first | exact Below.refl _ _ | assumption | refine Bel.alloc ?_ _ | refine Bel.step (by assumption) ?_ | refine Below.drew ?_ | refine Bel.drewN ?_ _ | refine Below.setCell ?_ (by first | exact Nat.le_refl _ | omega | (simp; done) | (simp; omega)) _)
    have lt1 : w.heap.size + 1 < w1.heap.size := hT1.lt
    obtain ⟨q0, q1, q2, q3, q4, q5, q6⟩ := Blk.chart hP
    go_wp2
    go_region_held3 (fun w' => (w'.cell? ⟨w.heap.size, 0, none⟩ = some (.int .i64 C.dg) ∧ w'.cell? ⟨w.heap.size, 1, none⟩ = some (.int .i64 C.tn) ∧ w'.cell? ⟨w.heap.size, 2, none⟩ = some (.string C.nm) ∧ w'.cell? ⟨w.heap.size, 3, none⟩ = some (.slice A C.zs.length c) ∧ w'.cell? ⟨w.heap.size, 4, none⟩ = some (.int .i64 C.wd) ∧ w'.cell? ⟨w.heap.size, 5, none⟩ = some (.int .i64 C.lf) ∧ w'.cell? ⟨w.heap.size, 6, none⟩ = some (.int .i64 C.rt))) (simp [go_sem, *])
        (first | (go_at_call 50; refine (l18Own_c _ _ _ h0 hn _ (by repeat (with_reducible first | exact HI.out | assumption | refine Ints.drew ?_ | refine Ints.drewN _ ?_ | refine Ints.alloc _ ?_ | refine Ints.step (by assumption) ?_))).mono ?_; rintro e wx ⟨Ax, kkx, rfl, hOx, hbx⟩; obtain ⟨hcx, hfx, hzx⟩ := bel hbx; (try simp only [World.size_drew, World.cell?_drew, World.frozen?_drew, World.heap_drewN, World.cell?_drewN, World.frozen?_drewN] at hcx hfx hzx); (try have hlx : w.heap.size < wx.heap.size := zl hbx); (try have hmx : w.heap.size + 1 < wx.heap.size := zl hbx); (try have hnx : w.heap.size + 1 + 1 < wx.heap.size := zl hbx); (try have hpx : b < wx.heap.size := zl hbx); (try have hox : b' < wx.heap.size := by (have hq := hbx.size; (try simp at hq); omega))))
    · have hO := Own.ge_mono hOx (show w1.heap.size ≤ _ by simp)
      obtain ⟨W, hW⟩ : ∃ W, W = wx.alloc (.cells #[.int .i64 ({ C with lf := x, rt := y } : Ch).dg, .int .i64 ({ C with lf := x, rt := y } : Ch).tn, .string ({ C with lf := x, rt := y } : Ch).nm, .slice Ax ({ C with lf := x, rt := y } : Ch).zs.length kkx, .int .i64 ({ C with lf := x, rt := y } : Ch).wd, .int .i64 ({ C with lf := x, rt := y } : Ch).lf, .int .i64 ({ C with lf := x, rt := y } : Ch).rt] 30) := ⟨_, rfl⟩
      have hbW : Below w1.heap.size w1 W := by rw [hW]; repeat (with_reducible first | exact Below.refl _ _ | assumption | refine Bel.alloc ?_ _ | refine Bel.step (by assumption) ?_ | refine Below.drew ?_ | refine Bel.drewN ?_ _ | refine Below.setCell ?_ (by first | exact Nat.le_refl _ | omega | (simp; done) | (simp; omega)) _)
      have hBW : Blk W wx.heap.size 30 #[.int .i64 ({ C with lf := x, rt := y } : Ch).dg, .int .i64 ({ C with lf := x, rt := y } : Ch).tn, .string ({ C with lf := x, rt := y } : Ch).nm, .slice Ax ({ C with lf := x, rt := y } : Ch).zs.length kkx, .int .i64 ({ C with lf := x, rt := y } : Ch).wd, .int .i64 ({ C with lf := x, rt := y } : Ch).lf, .int .i64 ({ C with lf := x, rt := y } : Ch).rt] := by rw [hW]; exact Blk.new _ _ _
      have hOW : Own W w1.heap.size 2 (.slice Ax C.zs.length kkx) C.zs := by rw [hW]; exact Own.alloc _ hO
      have hTW := Blk.step hbW hT1
      have hIW : Ints W Ax C.zs := hOW.ints
      have hbelW : Below w.heap.size w W := Bel.step hbW hbel1
      have ltb : w1.heap.size ≤ wx.heap.size := by have := hbx.size; simp at this; exact this
      have sW := hbW.size
      rw [← hW]
      clear hW hP q0 q1 q2 q3 q4 q5 q6 hO hbx hcx hfx hzx hOx
      obtain ⟨u0, u1, u2, u3, u4, u5, u6⟩ := Blk.chart (C := ({ C with lf := x, rt := y } : Ch)) hBW
      have uW := hBW.lt
      go_wp2_with fail
      go_at_call 54; refine (IsChart_S ({ C with lf := x, rt := y } : Ch) Ax kkx hn hs _ hIW).mono ?_; rintro e w3 ⟨rfl, hb3⟩; obtain ⟨hc3, hf3, hz3⟩ := bel hb3; (try simp only [World.size_drew, World.cell?_drew, World.frozen?_drew, World.heap_drewN, World.cell?_drewN, World.frozen?_drewN] at hc3 hf3 hz3); (try have hl3 : w.heap.size < w3.heap.size := zl hb3); (try have hm3 : w.heap.size + 1 < w3.heap.size := zl hb3); (try have hn3 : w.heap.size + 1 + 1 < w3.heap.size := zl hb3); (try have hp3 : b < w3.heap.size := zl hb3); (try have ho3 : b' < w3.heap.size := by (have hq := hb3.size; (try simp at hq); omega))
      obtain ⟨v0, v1, v2, v3, v4, v5, v6⟩ := Blk.chart (C := ({ C with lf := x, rt := y } : Ch)) (Blk.step hb3 hBW)
      have hT3 := Blk.step hb3 hTW
      have hO3 := Own.step hb3 hOW
      have hbel3 : Below w.heap.size w w3 := by repeat (with_reducible first | exact Below.refl _ _ | assumption | refine Bel.alloc ?_ _ | refine Bel.step (by assumption) ?_ | refine Below.drew ?_ | refine Bel.drewN ?_ _ | refine Below.setCell ?_ (by first | exact Nat.le_refl _ | omega | (simp; done) | (simp; omega)) _)
      have lw3 : W.heap.size ≤ w3.heap.size := hb3.size
      clear hT1 hTW hBW hOW hIW u0 u1 u2 u3 u4 u5 u6
      obtain ⟨z0, z1, z2, z3, z4, z5, z6⟩ := Blk.chart hT3
      have zf0 := hT3.frozen 0
      have zf1 := hT3.frozen 1
      have zf2 := hT3.frozen 2
      have zf3 := hT3.frozen 3
      have zf4 := hT3.frozen 4
      have zf5 := hT3.frozen 5
      have zf6 := hT3.frozen 6
      clear hT3 hb1 hc1 hf1 hz1 hb3 hc3 hf3 hz3
      by_cases h2 : okCh { C with lf := x, rt := y } = true
      · have HV := Lib.hid (show wmV C x y = { C with lf := x, rt := y } ∧ wmC C x y = 0 by simp [wmV, wmC, h1, h2])
        rw [h2]
        go_wp2
        refine bodyPost_ret (v := .tuple #[.agg #[.int .i64 ({ C with lf := x, rt := y } : Ch).dg, .int .i64 ({ C with lf := x, rt := y } : Ch).tn, .string ({ C with lf := x, rt := y } : Ch).nm, .slice Ax ({ C with lf := x, rt := y } : Ch).zs.length kkx, .int .i64 ({ C with lf := x, rt := y } : Ch).wd, .int .i64 ({ C with lf := x, rt := y } : Ch).lf, .int .i64 ({ C with lf := x, rt := y } : Ch).rt], .int .i64 0]) (by simp [results, Tryz.results31, go_sem, *]) rfl ⟨Ax, kkx, by rw [HV.out.1, HV.out.2], by rw [HV.out.1]; exact (Own.ge_mono (B := w1.heap.size) (by repeat (with_reducible first | exact hO3 | refine Own.set_ ?_ (by first | omega | (simp; omega)) _ | refine Own.alloc _ ?_ | refine Own.step (by assumption) ?_ | refine Own.drew ?_ | refine Own.drewN _ ?_)) (by omega)), by repeat (with_reducible first | exact Below.refl _ _ | assumption | refine Bel.alloc ?_ _ | refine Bel.step (by assumption) ?_ | refine Below.drew ?_ | refine Bel.drewN ?_ _ | refine Below.setCell ?_ (by first | exact Nat.le_refl _ | omega | (simp; done) | (simp; omega)) _)⟩
      · have h2' : okCh { C with lf := x, rt := y } = false := by simpa using h2
        have HV := Lib.hid (show wmV C x y = ZC ∧ wmC C x y = 2 by simp [wmV, wmC, h1, h2'])
        rw [h2']
        clear h2 h2'
        go_wp2
        refine bodyPost_ret (v := .tuple #[.agg #[.int .i64 ZC.dg, .int .i64 ZC.tn, .string ZC.nm, .slice none ZC.zs.length 0, .int .i64 ZC.wd, .int .i64 ZC.lf, .int .i64 ZC.rt], .int .i64 2]) (by simp [results, Tryz.results31, go_sem, ZC, *]) rfl ⟨none, 0, by rw [HV.out.1, HV.out.2], by rw [HV.out.1]; exact Own.nil _ _ _, by repeat (with_reducible first | exact Below.refl _ _ | assumption | refine Bel.alloc ?_ _ | refine Bel.step (by assumption) ?_ | refine Below.drew ?_ | refine Bel.drewN ?_ _ | refine Below.setCell ?_ (by first | exact Nat.le_refl _ | omega | (simp; done) | (simp; omega)) _)⟩
    · have hO := Own.ge_mono hOx (show w1.heap.size + 1 ≤ _ by simp)
      have hBx : Blk wx w1.heap.size 30 #[.int .i64 ZC.dg, .int .i64 ZC.tn, .string ZC.nm, .slice none ZC.zs.length 0, .int .i64 ZC.wd, .int .i64 ZC.lf, .int .i64 ZC.rt] := Blk.step hbx (Blk.drew (Blk.new w1 _ _))
      obtain ⟨W, hW⟩ : ∃ W, W = ((((((wx.setCell ⟨w1.heap.size, 0, none⟩ (.int .i64 C.dg)).setCell ⟨w1.heap.size, 1, none⟩ (.int .i64 C.tn)).setCell ⟨w1.heap.size, 2, none⟩ (.string C.nm)).setCell ⟨w1.heap.size, 3, none⟩ (.slice Ax C.zs.length kkx)).setCell ⟨w1.heap.size, 4, none⟩ (.int .i64 C.wd)).setCell ⟨w1.heap.size, 5, none⟩ (.int .i64 x)).setCell ⟨w1.heap.size, 6, none⟩ (.int .i64 y) := ⟨_, rfl⟩
      have hbW : Below w1.heap.size w1 W := by rw [hW]; repeat (with_reducible first | exact Below.refl _ _ | assumption | refine Bel.alloc ?_ _ | refine Bel.step (by assumption) ?_ | refine Below.drew ?_ | refine Bel.drewN ?_ _ | refine Below.setCell ?_ (by first | exact Nat.le_refl _ | omega | (simp; done) | (simp; omega)) _)
      have hBW : Blk W w1.heap.size 30 #[.int .i64 ({ C with lf := x, rt := y } : Ch).dg, .int .i64 ({ C with lf := x, rt := y } : Ch).tn, .string ({ C with lf := x, rt := y } : Ch).nm, .slice Ax ({ C with lf := x, rt := y } : Ch).zs.length kkx, .int .i64 ({ C with lf := x, rt := y } : Ch).wd, .int .i64 ({ C with lf := x, rt := y } : Ch).lf, .int .i64 ({ C with lf := x, rt := y } : Ch).rt] := by
        rw [hW]; simpa using (((((((hBx.set_ 0 (.int .i64 C.dg)).set_ 1 (.int .i64 C.tn)).set_ 2 (.string C.nm)).set_ 3 (.slice Ax C.zs.length kkx)).set_ 4 (.int .i64 C.wd)).set_ 5 (.int .i64 x)).set_ 6 (.int .i64 y))
      have hOW : Own W w1.heap.size 2 (.slice Ax C.zs.length kkx) C.zs := by rw [hW]; exact (Own.ge_mono (B := w1.heap.size + 1) (by repeat (with_reducible first | exact hO | refine Own.set_ ?_ (by first | omega | (simp; omega)) _ | refine Own.alloc _ ?_ | refine Own.step (by assumption) ?_ | refine Own.drew ?_ | refine Own.drewN _ ?_)) (by omega))
      have hTW := Blk.step hbW hT1
      have hIW : Ints W Ax C.zs := hOW.ints
      have hbelW : Below w.heap.size w W := Bel.step hbW hbel1
      have ltb : w.heap.size + 1 < w1.heap.size := by omega
      have sW := hbW.size
      rw [← hW]
      clear hW hP q0 q1 q2 q3 q4 q5 q6 hO hbx hcx hfx hzx hOx
      obtain ⟨u0, u1, u2, u3, u4, u5, u6⟩ := Blk.chart (C := ({ C with lf := x, rt := y } : Ch)) hBW
      have uW := hBW.lt
      go_wp2_with fail
      go_at_call 54; refine (IsChart_S ({ C with lf := x, rt := y } : Ch) Ax kkx hn hs _ hIW).mono ?_; rintro e w3 ⟨rfl, hb3⟩; obtain ⟨hc3, hf3, hz3⟩ := bel hb3; (try simp only [World.size_drew, World.cell?_drew, World.frozen?_drew, World.heap_drewN, World.cell?_drewN, World.frozen?_drewN] at hc3 hf3 hz3); (try have hl3 : w.heap.size < w3.heap.size := zl hb3); (try have hm3 : w.heap.size + 1 < w3.heap.size := zl hb3); (try have hn3 : w.heap.size + 1 + 1 < w3.heap.size := zl hb3); (try have hp3 : b < w3.heap.size := zl hb3); (try have ho3 : b' < w3.heap.size := by (have hq := hb3.size; (try simp at hq); omega))
      obtain ⟨v0, v1, v2, v3, v4, v5, v6⟩ := Blk.chart (C := ({ C with lf := x, rt := y } : Ch)) (Blk.step hb3 hBW)
      have hT3 := Blk.step hb3 hTW
      have hO3 := Own.step hb3 hOW
      have hbel3 : Below w.heap.size w w3 := by repeat (with_reducible first | exact Below.refl _ _ | assumption | refine Bel.alloc ?_ _ | refine Bel.step (by assumption) ?_ | refine Below.drew ?_ | refine Bel.drewN ?_ _ | refine Below.setCell ?_ (by first | exact Nat.le_refl _ | omega | (simp; done) | (simp; omega)) _)
      have lw3 : W.heap.size ≤ w3.heap.size := hb3.size
      clear hT1 hTW hBW hOW hIW u0 u1 u2 u3 u4 u5 u6
      obtain ⟨z0, z1, z2, z3, z4, z5, z6⟩ := Blk.chart hT3
      have zf0 := hT3.frozen 0
      have zf1 := hT3.frozen 1
      have zf2 := hT3.frozen 2
      have zf3 := hT3.frozen 3
      have zf4 := hT3.frozen 4
      have zf5 := hT3.frozen 5
      have zf6 := hT3.frozen 6
      clear hT3 hb1 hc1 hf1 hz1 hb3 hc3 hf3 hz3
      by_cases h2 : okCh { C with lf := x, rt := y } = true
      · have HV := Lib.hid (show wmV C x y = { C with lf := x, rt := y } ∧ wmC C x y = 0 by simp [wmV, wmC, h1, h2])
        rw [h2]
        go_wp2
        refine bodyPost_ret (v := .tuple #[.agg #[.int .i64 ({ C with lf := x, rt := y } : Ch).dg, .int .i64 ({ C with lf := x, rt := y } : Ch).tn, .string ({ C with lf := x, rt := y } : Ch).nm, .slice Ax ({ C with lf := x, rt := y } : Ch).zs.length kkx, .int .i64 ({ C with lf := x, rt := y } : Ch).wd, .int .i64 ({ C with lf := x, rt := y } : Ch).lf, .int .i64 ({ C with lf := x, rt := y } : Ch).rt], .int .i64 0]) (by simp [results, Tryz.results31, go_sem, *]) rfl ⟨Ax, kkx, by rw [HV.out.1, HV.out.2], by rw [HV.out.1]; exact (Own.ge_mono (B := w1.heap.size) (by repeat (with_reducible first | exact hO3 | refine Own.set_ ?_ (by first | omega | (simp; omega)) _ | refine Own.alloc _ ?_ | refine Own.step (by assumption) ?_ | refine Own.drew ?_ | refine Own.drewN _ ?_)) (by omega)), by repeat (with_reducible first | exact Below.refl _ _ | assumption | refine Bel.alloc ?_ _ | refine Bel.step (by assumption) ?_ | refine Below.drew ?_ | refine Bel.drewN ?_ _ | refine Below.setCell ?_ (by first | exact Nat.le_refl _ | omega | (simp; done) | (simp; omega)) _)⟩
      · have h2' : okCh { C with lf := x, rt := y } = false := by simpa using h2
        have HV := Lib.hid (show wmV C x y = ZC ∧ wmC C x y = 2 by simp [wmV, wmC, h1, h2'])
        rw [h2']
        clear h2 h2'
        go_wp2
        refine bodyPost_ret (v := .tuple #[.agg #[.int .i64 ZC.dg, .int .i64 ZC.tn, .string ZC.nm, .slice none ZC.zs.length 0, .int .i64 ZC.wd, .int .i64 ZC.lf, .int .i64 ZC.rt], .int .i64 2]) (by simp [results, Tryz.results31, go_sem, ZC, *]) rfl ⟨none, 0, by rw [HV.out.1, HV.out.2], by rw [HV.out.1]; exact Own.nil _ _ _, by repeat (with_reducible first | exact Below.refl _ _ | assumption | refine Bel.alloc ?_ _ | refine Bel.step (by assumption) ?_ | refine Below.drew ?_ | refine Bel.drewN ?_ _ | refine Below.setCell ?_ (by first | exact Nat.le_refl _ | omega | (simp; done) | (simp; omega)) _)⟩
  · have h1' : okCh C = false := by simpa using h1
    have HV := Lib.hid (show wmV C x y = ZC ∧ wmC C x y = 1 by simp [wmV, wmC, h1'])
    clear h1
    rw [HV.out.1, HV.out.2]
    go_enter Tryz.func31, Tryz.ntmps31
    go_wp2_with fail
    go_at_call 54; refine (IsChart_S _ _ _ hn hs _ (Ints.alloc _ (Ints.alloc _ hA))).mono ?_; rintro e w1 ⟨rfl, hb1⟩; obtain ⟨hc1, hf1, hz1⟩ := bel hb1; (try simp only [World.size_drew, World.cell?_drew, World.frozen?_drew, World.heap_drewN, World.cell?_drewN, World.frozen?_drewN] at hc1 hf1 hz1); (try have hl1 : w.heap.size < w1.heap.size := zl hb1); (try have hm1 : w.heap.size + 1 < w1.heap.size := zl hb1); (try have hn1 : w.heap.size + 1 + 1 < w1.heap.size := zl hb1); (try have hp1 : b < w1.heap.size := zl hb1); (try have ho1 : b' < w1.heap.size := by (have hq := hb1.size; (try simp at hq); omega))
    go_wp2
    refine bodyPost_ret (v := .tuple #[.agg #[.int .i64 ZC.dg, .int .i64 ZC.tn, .string ZC.nm, .slice none ZC.zs.length 0, .int .i64 ZC.wd, .int .i64 ZC.lf, .int .i64 ZC.rt], .int .i64 1]) (by simp [results, Tryz.results31, go_sem, ZC, *]) rfl ⟨none, 0, rfl, Own.nil _ _ _, by repeat (with_reducible first | exact Below.refl _ _ | assumption | refine Bel.alloc ?_ _ | refine Bel.step (by assumption) ?_ | refine Below.drew ?_ | refine Bel.drewN ?_ _ | refine Below.setCell ?_ (by first | exact Nat.le_refl _ | omega | (simp; done) | (simp; omega)) _)⟩
set_option maxHeartbeats 800000 in
theorem WithModuli_I (C : Ch) (A : Option Addr) (c : Nat) (x y : Int) (hn : C.zs.length ≤ 1048576) (hs : C.nm.size ≤ 1048576) (w : World) (hA : Ints w A C.zs) :
    Calls Tryz.prog 30 #[.agg #[.int .i64 C.dg, .int .i64 C.tn, .string C.nm, .slice A C.zs.length c, .int .i64 C.wd, .int .i64 C.lf, .int .i64 C.rt], .int .i64 x, .int .i64 y] w fun e w' => ∃ A' c', e = .returned (.tuple #[.agg #[.int .i64 (wmV C x y).dg, .int .i64 (wmV C x y).tn, .string (wmV C x y).nm, .slice A' (wmV C x y).zs.length c', .int .i64 (wmV C x y).wd, .int .i64 (wmV C x y).lf, .int .i64 (wmV C x y).rt], .int .i64 (wmC C x y)]) ∧ Own w' w.heap.size 2 (.slice A' (wmV C x y).zs.length c') (wmV C x y).zs ∧ Below w.heap.size w w' := by
  by_cases h1 : okCh C = true
  · obtain ⟨_, ⟨hz, _⟩, _⟩ := okCh_iff h1
    have h0 : 0 < C.zs.length := by omega
    go_enter Tryz.func30, Tryz.ntmps30
    go_wp2_with fail
    go_at_call 69; refine (IsChart_I _ _ _ hn hs _ (Ints.alloc _ (Ints.alloc _ hA))).mono ?_; rintro e w1 ⟨rfl, hb1⟩; obtain ⟨hc1, hf1, hz1⟩ := bel hb1; (try simp only [World.size_drew, World.cell?_drew, World.frozen?_drew, World.heap_drewN, World.cell?_drewN, World.frozen?_drewN] at hc1 hf1 hz1); (try have hl1 : w.heap.size < w1.heap.size := zl hb1); (try have hm1 : w.heap.size + 1 < w1.heap.size := zl hb1); (try have hn1 : w.heap.size + 1 + 1 < w1.heap.size := zl hb1); (try have hp1 : b < w1.heap.size := zl hb1); (try have ho1 : b' < w1.heap.size := by (have hq := hb1.size; (try simp at hq); omega))
    have HI := Lib.hid (Ints.step hb1 (Ints.alloc _ (Ints.alloc _ hA)))
    have hP := Blk.step hb1 (Blk.alloc (.cells #[.int .i64 ZC.dg, .int .i64 ZC.tn, .string ZC.nm, .slice none ZC.zs.length 0, .int .i64 ZC.wd, .int .i64 ZC.lf, .int .i64 ZC.rt] 30) (Blk.new w 30 #[.int .i64 C.dg, .int .i64 C.tn, .string C.nm, .slice A C.zs.length c, .int .i64 C.wd, .int .i64 C.lf, .int .i64 C.rt]))
    have hT1 : Blk w1 (w.heap.size + 1) 30 #[.int .i64 ZC.dg, .int .i64 ZC.tn, .string ZC.nm, .slice none ZC.zs.length 0, .int .i64 ZC.wd, .int .i64 ZC.lf, .int .i64 ZC.rt] := by
      have := Blk.new (w.alloc (.cells #[.int .i64 C.dg, .int .i64 C.tn, .string C.nm, .slice A C.zs.length c, .int .i64 C.wd, .int .i64 C.lf, .int .i64 C.rt] 30)) 30 #[.int .i64 ZC.dg, .int .i64 ZC.tn, .string ZC.nm, .slice none ZC.zs.length 0, .int .i64 ZC.wd, .int .i64 ZC.lf, .int .i64 ZC.rt]
      simp only [World.size_alloc] at this
      exact Blk.step hb1 this
    have hbel1 : Below w.heap.size w w1 := by repeat (with_reducible first | exact Below.refl _ _ | assumption | refine Bel.alloc ?_ _ | refine Bel.step (by assumption) ?_ | refine Below.drew ?_ | refine Bel.drewN ?_ _ | refine Below.setCell ?_ (by first | exact Nat.le_refl _ | omega | (simp; done) | (simp; omega)) _)
    have lt1 : w.heap.size + 1 < w1.heap.size := hT1.lt
    go_wp2_with fail
    go_at_call 83; refine (withModuli_c _ _ _ _ _ h0 hn _ HI.out).mono ?_; rintro e w2 ⟨A2, kk2, rfl, hO2, hb2⟩; obtain ⟨hc2, hf2, hz2⟩ := bel hb2; (try simp only [World.size_drew, World.cell?_drew, World.frozen?_drew, World.heap_drewN, World.cell?_drewN, World.frozen?_drewN] at hc2 hf2 hz2); (try have hl2 : w.heap.size < w2.heap.size := zl hb2); (try have hm2 : w.heap.size + 1 < w2.heap.size := zl hb2); (try have hn2 : w.heap.size + 1 + 1 < w2.heap.size := zl hb2); (try have hp2 : b < w2.heap.size := zl hb2); (try have ho2 : b' < w2.heap.size := by (have hq := hb2.size; (try simp at hq); omega))
    have hI2 : Ints w2 A2 C.zs := hO2.ints
    go_wp2_with fail
    go_at_call 69; refine (IsChart_I ({ C with lf := x, rt := y } : Ch) A2 kk2 hn hs _ (Ints.alloc _ hI2)).mono ?_; rintro e w3 ⟨rfl, hb3⟩; obtain ⟨hc3, hf3, hz3⟩ := bel hb3; (try simp only [World.size_drew, World.cell?_drew, World.frozen?_drew, World.heap_drewN, World.cell?_drewN, World.frozen?_drewN] at hc3 hf3 hz3); (try have hl3 : w.heap.size < w3.heap.size := zl hb3); (try have hm3 : w.heap.size + 1 < w3.heap.size := zl hb3); (try have hn3 : w.heap.size + 1 + 1 < w3.heap.size := zl hb3); (try have hp3 : b < w3.heap.size := zl hb3); (try have ho3 : b' < w3.heap.size := by (have hq := hb3.size; (try simp at hq); omega))
    obtain ⟨v0, v1, v2, v3, v4, v5, v6⟩ := Blk.chart (C := ({ C with lf := x, rt := y } : Ch)) (Blk.step hb3 (Blk.new w2 _ _))
    have hT3 := Blk.step hb3 (Blk.alloc (.cells #[.int .i64 ({ C with lf := x, rt := y } : Ch).dg, .int .i64 ({ C with lf := x, rt := y } : Ch).tn, .string ({ C with lf := x, rt := y } : Ch).nm, .slice A2 ({ C with lf := x, rt := y } : Ch).zs.length kk2, .int .i64 ({ C with lf := x, rt := y } : Ch).wd, .int .i64 ({ C with lf := x, rt := y } : Ch).lf, .int .i64 ({ C with lf := x, rt := y } : Ch).rt] 30) (Blk.step hb2 hT1))
    have hO3 := Own.step hb3 (Own.alloc (.cells #[.int .i64 ({ C with lf := x, rt := y } : Ch).dg, .int .i64 ({ C with lf := x, rt := y } : Ch).tn, .string ({ C with lf := x, rt := y } : Ch).nm, .slice A2 ({ C with lf := x, rt := y } : Ch).zs.length kk2, .int .i64 ({ C with lf := x, rt := y } : Ch).wd, .int .i64 ({ C with lf := x, rt := y } : Ch).lf, .int .i64 ({ C with lf := x, rt := y } : Ch).rt] 30) hO2)
    have hbel3 : Below w.heap.size w w3 := by repeat (with_reducible first | exact Below.refl _ _ | assumption | refine Bel.alloc ?_ _ | refine Bel.step (by assumption) ?_ | refine Below.drew ?_ | refine Bel.drewN ?_ _ | refine Below.setCell ?_ (by first | exact Nat.le_refl _ | omega | (simp; done) | (simp; omega)) _)
    have lw3 : w2.heap.size < w3.heap.size := by have := hb3.size; simp at this; omega
    clear hP hb2 hc2 hf2 hz2 hT1
    obtain ⟨z0, z1, z2, z3, z4, z5, z6⟩ := Blk.chart hT3
    have zf0 := hT3.frozen 0
    have zf1 := hT3.frozen 1
    have zf2 := hT3.frozen 2
    have zf3 := hT3.frozen 3
    have zf4 := hT3.frozen 4
    have zf5 := hT3.frozen 5
    have zf6 := hT3.frozen 6
    clear hT3 hb1 hc1 hf1 hz1 hb3 hc3 hf3 hz3
    by_cases h2 : okCh { C with lf := x, rt := y } = true
    · have HV := Lib.hid (show wmV C x y = { C with lf := x, rt := y } ∧ wmC C x y = 0 by simp [wmV, wmC, h1, h2])
      rw [h2]
      go_wp2
      refine bodyPost_ret (v := .tuple #[.agg #[.int .i64 ({ C with lf := x, rt := y } : Ch).dg, .int .i64 ({ C with lf := x, rt := y } : Ch).tn, .string ({ C with lf := x, rt := y } : Ch).nm, .slice A2 ({ C with lf := x, rt := y } : Ch).zs.length kk2, .int .i64 ({ C with lf := x, rt := y } : Ch).wd, .int .i64 ({ C with lf := x, rt := y } : Ch).lf, .int .i64 ({ C with lf := x, rt := y } : Ch).rt], .int .i64 0]) (by simp [results, Tryz.results30, go_sem, *]) rfl ⟨A2, kk2, by rw [HV.out.1, HV.out.2], by rw [HV.out.1]; exact (Own.ge_mono (B := w1.heap.size) (by repeat (with_reducible first | exact hO3 | refine Own.set_ ?_ (by first | omega | (simp; omega)) _ | refine Own.alloc _ ?_ | refine Own.step (by assumption) ?_ | refine Own.drew ?_ | refine Own.drewN _ ?_)) (by omega)), by repeat (with_reducible first | exact Below.refl _ _ | assumption | refine Bel.alloc ?_ _ | refine Bel.step (by assumption) ?_ | refine Below.drew ?_ | refine Bel.drewN ?_ _ | refine Below.setCell ?_ (by first | exact Nat.le_refl _ | omega | (simp; done) | (simp; omega)) _)⟩
    · have h2' : okCh { C with lf := x, rt := y } = false := by simpa using h2
      have HV := Lib.hid (show wmV C x y = ZC ∧ wmC C x y = 2 by simp [wmV, wmC, h1, h2'])
      rw [h2']
      clear h2 h2'
      go_wp2
      refine bodyPost_ret (v := .tuple #[.agg #[.int .i64 ZC.dg, .int .i64 ZC.tn, .string ZC.nm, .slice none ZC.zs.length 0, .int .i64 ZC.wd, .int .i64 ZC.lf, .int .i64 ZC.rt], .int .i64 2]) (by simp [results, Tryz.results30, go_sem, ZC, *]) rfl ⟨none, 0, by rw [HV.out.1, HV.out.2], by rw [HV.out.1]; exact Own.nil _ _ _, by repeat (with_reducible first | exact Below.refl _ _ | assumption | refine Bel.alloc ?_ _ | refine Bel.step (by assumption) ?_ | refine Below.drew ?_ | refine Bel.drewN ?_ _ | refine Below.setCell ?_ (by first | exact Nat.le_refl _ | omega | (simp; done) | (simp; omega)) _)⟩
  · have h1' : okCh C = false := by simpa using h1
    have HV := Lib.hid (show wmV C x y = ZC ∧ wmC C x y = 1 by simp [wmV, wmC, h1'])
    clear h1
    rw [HV.out.1, HV.out.2]
    go_enter Tryz.func30, Tryz.ntmps30
    go_wp2_with fail
    go_at_call 69; refine (IsChart_I _ _ _ hn hs _ (Ints.alloc _ (Ints.alloc _ hA))).mono ?_; rintro e w1 ⟨rfl, hb1⟩; obtain ⟨hc1, hf1, hz1⟩ := bel hb1; (try simp only [World.size_drew, World.cell?_drew, World.frozen?_drew, World.heap_drewN, World.cell?_drewN, World.frozen?_drewN] at hc1 hf1 hz1); (try have hl1 : w.heap.size < w1.heap.size := zl hb1); (try have hm1 : w.heap.size + 1 < w1.heap.size := zl hb1); (try have hn1 : w.heap.size + 1 + 1 < w1.heap.size := zl hb1); (try have hp1 : b < w1.heap.size := zl hb1); (try have ho1 : b' < w1.heap.size := by (have hq := hb1.size; (try simp at hq); omega))
    go_wp2
    refine bodyPost_ret (v := .tuple #[.agg #[.int .i64 ZC.dg, .int .i64 ZC.tn, .string ZC.nm, .slice none ZC.zs.length 0, .int .i64 ZC.wd, .int .i64 ZC.lf, .int .i64 ZC.rt], .int .i64 1]) (by simp [results, Tryz.results30, go_sem, ZC, *]) rfl ⟨none, 0, rfl, Own.nil _ _ _, by repeat (with_reducible first | exact Below.refl _ _ | assumption | refine Bel.alloc ?_ _ | refine Bel.step (by assumption) ?_ | refine Below.drew ?_ | refine Bel.drewN ?_ _ | refine Below.setCell ?_ (by first | exact Nat.le_refl _ | omega | (simp; done) | (simp; omega)) _)⟩
end Go.Proofs.YtpmcgicopogbhaaGreat
