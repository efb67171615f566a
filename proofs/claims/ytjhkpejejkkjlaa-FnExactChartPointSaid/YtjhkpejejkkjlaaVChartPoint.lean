/- The statement FnExactChartPoint, walked. No conditions. -/
import Derived.Test.YtjhkpejejkkjlaaProg
import Derived.Test.YtjhkpejejkkjlaaBase
import Derived.Test.YtjhkpejejkkjlaaL01
import Derived.Test.YtjhkpejejkkjlaaCp
import Derived.Test.YtjhkpejejkkjlaaCh
import Derived.Test.YtjhkpejejkkjlaaL18
import Derived.Test.YtjhkpejejkkjlaaW23
import Derived.Test.YtjhkpejejkkjlaaL23
import Derived.Test.YtjhkpejejkkjlaaL03
import Derived.Test.YtjhkpejejkkjlaaL23d
import Derived.Test.YtjhkpejejkkjlaaL23e
import Derived.Test.YtjhkpejejkkjlaaL23f
import Derived.Test.YtjhkpejejkkjlaaL24
import Derived.Test.YtjhkpejejkkjlaaL23g
import Derived.WalkKit
import Derived.WalkSpells
import Derived.WalkLawsBesides
import Derived.Lib.Hide
import Derived.Deep.QuietTactic
import Derived.BigQuiet
import Derived.Deep.Draws
import Derived.Deep.RegionHeld3
namespace Go.Proofs.Ytjhkpejejkkjlaa
open Go.RowKit
set_option linter.unusedVariables false
/-- A fact that the walk does not look into. -/
structure BoxChartPoint (P : Prop) : Prop where
  out : P
theorem cut_ChartPoint {G : Prop} (P : Prop) (k : BoxChartPoint P → G) (h : P) : G := k ⟨h⟩
set_option maxHeartbeats 2000000 in
theorem FnExactChartPoint_w (w : World) (C : Ch) (A : Option Addr) (c : Nat) (hl : C.zs.length ≤ 9223372036854775807) (hA : Ints w A C.zs) (hs : C.nm.size ≤ 9223372036854775807) (sc : Int) (gsc : (Lit.int .i64 sc).wf = true) (ud ut : Int) (gud : (Lit.int .i64 ud).wf = true) (gut : (Lit.int .i64 ut).wf = true) :
    Calls Try.prog 13 #[.agg #[.int .i64 C.dg, .int .i64 C.tn, .string C.nm, .slice A C.zs.length c, .int .i64 C.wd, .int .i64 C.lf, .int .i64 C.rt], .int .i64 sc, .agg #[.int .i64 ud, .int .i64 ut]] w fun e w' => e = .returned (.bool true) ∧ Below w.heap.size w w' := by
  by_cases hz : C.nm.size + C.zs.length ≤ 1048576
  · have HZ := Lib.hid (sz2_ok hz)
    have hn : C.zs.length ≤ 1048576 := by omega
    have hm : C.nm.size ≤ 1048576 := by omega
    have hn0 : (0 : Int) ≤ 1048576 - C.nm.size - C.zs.length := by omega
    clear hz
    go_enter Try.func13, Try.ntmps13
    go_wp2_with fail
    go_at_call 15; refine (szChart_c _ _ _ _ (by omega) (by omega) (by assumption) (by assumption) _).mono ?_; rintro e w1 ⟨rfl, hb1⟩; obtain ⟨hc1, hf1, hz1⟩ := bel hb1; (try simp only [World.size_drew, World.cell?_drew, World.frozen?_drew] at hc1 hf1 hz1); (try simp only [World.heap_drewN, World.cell?_drewN, World.frozen?_drewN] at hc1 hf1 hz1); (try have hl1 : w.heap.size < w1.heap.size := by (have hq := hb1.size; (try simp at hq); omega)); (try have hm1 : w.heap.size + 1 < w1.heap.size := by (have hq := hb1.size; (try simp at hq); omega)); (try have hn1 : w.heap.size + 1 + 1 < w1.heap.size := by (have hq := hb1.size; (try simp at hq); omega)); (try have hp1 : b < w1.heap.size := by (have hq := hb1.size; (try simp at hq); omega)); (try have ho1 : b' < w1.heap.size := by (have hq := hb1.size; (try simp at hq); omega))
    rw [HZ.out]
    have hbel1 : Below w.heap.size w w1 := by repeat (with_reducible first | exact Below.refl _ _ | assumption | refine Bel.alloc ?_ _ | refine Bel.step (by assumption) ?_ | refine Below.drew ?_ | refine Bel.drewN ?_ _ | refine Below.setCell ?_ (by first | exact Nat.le_refl _ | omega | (simp; done) | (simp; omega)) _)
    have lt0 : w.heap.size < w1.heap.size := by have := hb1.size; simp at this; omega
    have lt1 : w.heap.size + 1 < w1.heap.size := by have := hb1.size; simp at this; omega
    have p0 : w1.cell? ⟨w.heap.size, 0, none⟩ = some (.int .i64 C.dg) := by simp [go_sem, *]
    have p1 : w1.cell? ⟨w.heap.size, 1, none⟩ = some (.int .i64 C.tn) := by simp [go_sem, *]
    have p2 : w1.cell? ⟨w.heap.size, 2, none⟩ = some (.string C.nm) := by simp [go_sem, *]
    have p3 : w1.cell? ⟨w.heap.size, 3, none⟩ = some (.slice A C.zs.length c) := by simp [go_sem, *]
    have p4 : w1.cell? ⟨w.heap.size, 4, none⟩ = some (.int .i64 C.wd) := by simp [go_sem, *]
    have p5 : w1.cell? ⟨w.heap.size, 5, none⟩ = some (.int .i64 C.lf) := by simp [go_sem, *]
    have p6 : w1.cell? ⟨w.heap.size, 6, none⟩ = some (.int .i64 C.rt) := by simp [go_sem, *]
    have u0 : w1.cell? ⟨w.heap.size + 1, 0, none⟩ = some (.int .i64 ud) := by simp [go_sem, *]
    have u1 : w1.cell? ⟨w.heap.size + 1, 1, none⟩ = some (.int .i64 ut) := by simp [go_sem, *]
    have HI := Lib.hid (Ints.step hbel1 hA)
    clear hb1 hc1 hf1 hz1
    go_wp2
    apply cut_ChartPoint
    · intro key
      go_region_held3 (fun w' => (w'.cell? ⟨w.heap.size, 0, none⟩ = some (.int .i64 C.dg) ∧ w'.cell? ⟨w.heap.size, 1, none⟩ = some (.int .i64 C.tn) ∧ w'.cell? ⟨w.heap.size, 2, none⟩ = some (.string C.nm) ∧ w'.cell? ⟨w.heap.size, 3, none⟩ = some (.slice A C.zs.length c) ∧ w'.cell? ⟨w.heap.size, 4, none⟩ = some (.int .i64 C.wd) ∧ w'.cell? ⟨w.heap.size, 5, none⟩ = some (.int .i64 C.lf) ∧ w'.cell? ⟨w.heap.size, 6, none⟩ = some (.int .i64 C.rt)) ∧ w'.cell? ⟨w.heap.size + 1, 0, none⟩ = some (.int .i64 ud) ∧ w'.cell? ⟨w.heap.size + 1, 1, none⟩ = some (.int .i64 ut)) (simp [go_sem, *])
          (first | (go_at_call 17; refine (toChart_c _ _ _ hn _ (by repeat (with_reducible first | exact HI.out | assumption | refine Ints.drew ?_ | refine Ints.drewN _ ?_ | refine Ints.alloc _ ?_ | refine Ints.step (by assumption) ?_))).mono ?_; rintro e wa ⟨ga, rfl, hga, hBa, hba⟩; obtain ⟨hca, hfa, hza⟩ := bel hba; (try simp only [World.size_drew, World.cell?_drew, World.frozen?_drew] at hca hfa hza); (try simp only [World.heap_drewN, World.cell?_drewN, World.frozen?_drewN] at hca hfa hza); (try have hla : w.heap.size < wa.heap.size := by (have hq := hba.size; (try simp at hq); omega)); (try have hma : w.heap.size + 1 < wa.heap.size := by (have hq := hba.size; (try simp at hq); omega)); (try have hna : w.heap.size + 1 + 1 < wa.heap.size := by (have hq := hba.size; (try simp at hq); omega)); (try have hpa : b < wa.heap.size := by (have hq := hba.size; (try simp at hq); omega)); (try have hoa : b' < wa.heap.size := by (have hq := hba.size; (try simp at hq); omega)); (try (have ylaw1 : w1.heap.size < wa.heap.size := hza _ (by first | assumption | (simp; done)); have ycaw10 : wa.cell? ⟨w1.heap.size, 0, none⟩ = some (.int .i64 0) := (hca _ _ (by first | assumption | (simp; done))).trans (by first | assumption | (simp [go_sem]; done)); have ycaw11 : wa.cell? ⟨w1.heap.size, 1, none⟩ = some (.int .i64 0) := (hca _ _ (by first | assumption | (simp; done))).trans (by first | assumption | (simp [go_sem]; done)); have yfaw10 : wa.frozen? ⟨w1.heap.size, 0, none⟩ = false := (hfa _ _ (by first | assumption | (simp; done))).trans (by first | assumption | (simp [go_sem]; done)); have yfaw11 : wa.frozen? ⟨w1.heap.size, 1, none⟩ = false := (hfa _ _ (by first | assumption | (simp; done))).trans (by first | assumption | (simp [go_sem]; done)))); (try (have ylawu : wu.heap.size < wa.heap.size := hza _ (by first | assumption | (simp; done)); have ycawu0 : wa.cell? ⟨wu.heap.size, 0, none⟩ = some (.int .i64 0) := (hca _ _ (by first | assumption | (simp; done))).trans (by first | assumption | (simp [go_sem]; done)); have ycawu1 : wa.cell? ⟨wu.heap.size, 1, none⟩ = some (.int .i64 0) := (hca _ _ (by first | assumption | (simp; done))).trans (by first | assumption | (simp [go_sem]; done)); have yfawu0 : wa.frozen? ⟨wu.heap.size, 0, none⟩ = false := (hfa _ _ (by first | assumption | (simp; done))).trans (by first | assumption | (simp [go_sem]; done)); have yfawu1 : wa.frozen? ⟨wu.heap.size, 1, none⟩ = false := (hfa _ _ (by first | assumption | (simp; done))).trans (by first | assumption | (simp [go_sem]; done))))) | (go_at_call_of 51 (Value.agg #[Value.int IntKind.i64 ud, Value.int IntKind.i64 ut]); refine (toFigure_c _ _ _).mono ?_; rintro e wu ⟨rfl, hbu⟩; obtain ⟨hcu, hfu, hzu⟩ := bel hbu; (try simp only [World.size_drew, World.cell?_drew, World.frozen?_drew] at hcu hfu hzu); (try simp only [World.heap_drewN, World.cell?_drewN, World.frozen?_drewN] at hcu hfu hzu); (try have hlu : w.heap.size < wu.heap.size := by (have hq := hbu.size; (try simp at hq); omega)); (try have hmu : w.heap.size + 1 < wu.heap.size := by (have hq := hbu.size; (try simp at hq); omega)); (try have hnu : w.heap.size + 1 + 1 < wu.heap.size := by (have hq := hbu.size; (try simp at hq); omega)); (try have hpu : b < wu.heap.size := by (have hq := hbu.size; (try simp at hq); omega)); (try have hou : b' < wu.heap.size := by (have hq := hbu.size; (try simp at hq); omega)); (try (have yluw1 : w1.heap.size < wu.heap.size := hzu _ (by first | assumption | (simp; done)); have ycuw10 : wu.cell? ⟨w1.heap.size, 0, none⟩ = some (.int .i64 0) := (hcu _ _ (by first | assumption | (simp; done))).trans (by first | assumption | (simp [go_sem]; done)); have ycuw11 : wu.cell? ⟨w1.heap.size, 1, none⟩ = some (.int .i64 0) := (hcu _ _ (by first | assumption | (simp; done))).trans (by first | assumption | (simp [go_sem]; done)); have yfuw10 : wu.frozen? ⟨w1.heap.size, 0, none⟩ = false := (hfu _ _ (by first | assumption | (simp; done))).trans (by first | assumption | (simp [go_sem]; done)); have yfuw11 : wu.frozen? ⟨w1.heap.size, 1, none⟩ = false := (hfu _ _ (by first | assumption | (simp; done))).trans (by first | assumption | (simp [go_sem]; done)))); (try (have yluwa : wa.heap.size < wu.heap.size := hzu _ (by first | assumption | (simp; done)); have ycuwa0 : wu.cell? ⟨wa.heap.size, 0, none⟩ = some (.int .i64 0) := (hcu _ _ (by first | assumption | (simp; done))).trans (by first | assumption | (simp [go_sem]; done)); have ycuwa1 : wu.cell? ⟨wa.heap.size, 1, none⟩ = some (.int .i64 0) := (hcu _ _ (by first | assumption | (simp; done))).trans (by first | assumption | (simp [go_sem]; done)); have yfuwa0 : wu.frozen? ⟨wa.heap.size, 0, none⟩ = false := (hfu _ _ (by first | assumption | (simp; done))).trans (by first | assumption | (simp [go_sem]; done)); have yfuwa1 : wu.frozen? ⟨wa.heap.size, 1, none⟩ = false := (hfu _ _ (by first | assumption | (simp; done))).trans (by first | assumption | (simp [go_sem]; done))))) | (go_at_call 54; refine (ChartPoint_S _ _ _ _ _ _ hn hm _ (by repeat (with_reducible first | exact hBa.ints | refine Ints.drewN _ ?_ | refine Ints.drew ?_ | refine Ints.alloc _ ?_ | refine Ints.step (by assumption) ?_))).mono ?_; rintro e wx ⟨rfl, hbx⟩; obtain ⟨hcx, hfx, hzx⟩ := bel hbx; (try simp only [World.size_drew, World.cell?_drew, World.frozen?_drew] at hcx hfx hzx); (try simp only [World.heap_drewN, World.cell?_drewN, World.frozen?_drewN] at hcx hfx hzx); (try have hlx : w.heap.size < wx.heap.size := by (have hq := hbx.size; (try simp at hq); omega)); (try have hmx : w.heap.size + 1 < wx.heap.size := by (have hq := hbx.size; (try simp at hq); omega)); (try have hnx : w.heap.size + 1 + 1 < wx.heap.size := by (have hq := hbx.size; (try simp at hq); omega)); (try have hpx : b < wx.heap.size := by (have hq := hbx.size; (try simp at hq); omega)); (try have hox : b' < wx.heap.size := by (have hq := hbx.size; (try simp at hq); omega)); (try (have ylxw1 : w1.heap.size < wx.heap.size := hzx _ (by first | assumption | (simp; done)); have ycxw10 : wx.cell? ⟨w1.heap.size, 0, none⟩ = some (.int .i64 0) := (hcx _ _ (by first | assumption | (simp; done))).trans (by first | assumption | (simp [go_sem]; done)); have ycxw11 : wx.cell? ⟨w1.heap.size, 1, none⟩ = some (.int .i64 0) := (hcx _ _ (by first | assumption | (simp; done))).trans (by first | assumption | (simp [go_sem]; done)); have yfxw10 : wx.frozen? ⟨w1.heap.size, 0, none⟩ = false := (hfx _ _ (by first | assumption | (simp; done))).trans (by first | assumption | (simp [go_sem]; done)); have yfxw11 : wx.frozen? ⟨w1.heap.size, 1, none⟩ = false := (hfx _ _ (by first | assumption | (simp; done))).trans (by first | assumption | (simp [go_sem]; done)))); (try (have ylxwa : wa.heap.size < wx.heap.size := hzx _ (by first | assumption | (simp; done)); have ycxwa0 : wx.cell? ⟨wa.heap.size, 0, none⟩ = some (.int .i64 0) := (hcx _ _ (by first | assumption | (simp; done))).trans (by first | assumption | (simp [go_sem]; done)); have ycxwa1 : wx.cell? ⟨wa.heap.size, 1, none⟩ = some (.int .i64 0) := (hcx _ _ (by first | assumption | (simp; done))).trans (by first | assumption | (simp [go_sem]; done)); have yfxwa0 : wx.frozen? ⟨wa.heap.size, 0, none⟩ = false := (hfx _ _ (by first | assumption | (simp; done))).trans (by first | assumption | (simp [go_sem]; done)); have yfxwa1 : wx.frozen? ⟨wa.heap.size, 1, none⟩ = false := (hfx _ _ (by first | assumption | (simp; done))).trans (by first | assumption | (simp [go_sem]; done)))); (try (have ylxwu : wu.heap.size < wx.heap.size := hzx _ (by first | assumption | (simp; done)); have ycxwu0 : wx.cell? ⟨wu.heap.size, 0, none⟩ = some (.int .i64 0) := (hcx _ _ (by first | assumption | (simp; done))).trans (by first | assumption | (simp [go_sem]; done)); have ycxwu1 : wx.cell? ⟨wu.heap.size, 1, none⟩ = some (.int .i64 0) := (hcx _ _ (by first | assumption | (simp; done))).trans (by first | assumption | (simp [go_sem]; done)); have yfxwu0 : wx.frozen? ⟨wu.heap.size, 0, none⟩ = false := (hfx _ _ (by first | assumption | (simp; done))).trans (by first | assumption | (simp [go_sem]; done)); have yfxwu1 : wx.frozen? ⟨wu.heap.size, 1, none⟩ = false := (hfx _ _ (by first | assumption | (simp; done))).trans (by first | assumption | (simp [go_sem]; done))))))
      · generalize hW : (wx.alloc (.cells #[.int .i64 (ptX C sc ud ut), .int .i64 (ptY C sc ud ut)] 85)) = W
        have hbW : Below w1.heap.size w1 W := by rw [← hW]; repeat (with_reducible first | exact Below.refl _ _ | assumption | refine Bel.alloc ?_ _ | refine Bel.step (by assumption) ?_ | refine Below.drew ?_ | refine Bel.drewN ?_ _ | refine Below.setCell ?_ (by first | exact Nat.le_refl _ | omega | (simp; done) | (simp; omega)) _)
        have h0 : W.cell? ⟨wx.heap.size, 0, none⟩ = some (.int .i64 (ptX C sc ud ut)) := by rw [← hW]; simp [go_sem]
        have h1 : W.cell? ⟨wx.heap.size, 1, none⟩ = some (.int .i64 (ptY C sc ud ut)) := by rw [← hW]; simp [go_sem]
        have hX0 : wx.heap.size < W.heap.size := by rw [← hW]; first | (simp; done) | (simp; omega)
        clear hW
        generalize wx.heap.size = X0 at h0 h1 hX0 ⊢
        generalize ga = G
        revert hbW h0 h1 hX0
        revert W X0 G
        exact key.out
      all_goals
        have za : w1.heap.size ≤ wa.heap.size := by have := hba.size; (try simp at this); omega
        have zu : w1.heap.size ≤ wu.heap.size := by have := hbu.size; (try simp at this); omega
        refine key.out _ _ _ ?_ ?_ ?_ ?_
        · repeat (with_reducible first | exact Below.refl _ _ | assumption | refine Bel.alloc ?_ _ | refine Bel.step (by assumption) ?_ | refine Below.drew ?_ | refine Bel.drewN ?_ _ | refine Below.setCell ?_ (by first | exact Nat.le_refl _ | omega | (simp; done) | (simp; omega)) _)
        all_goals first | (simp [go_sem, *]; done) | (simp; omega) | omega
    · intro W X0 G hbW h0 h1 hX0
      obtain ⟨hcW, hfW, hzW⟩ := bel hbW
      have hbelW := Bel.step hbW hbel1
      have P0 := (hcW _ _ lt0).trans p0
      have P1 := (hcW _ _ lt0).trans p1
      have P2 := (hcW _ _ lt0).trans p2
      have P3 := (hcW _ _ lt0).trans p3
      have P4 := (hcW _ _ lt0).trans p4
      have P5 := (hcW _ _ lt0).trans p5
      have P6 := (hcW _ _ lt0).trans p6
      have uA := (hcW _ _ lt1).trans u0
      have uB := (hcW _ _ lt1).trans u1
      have mt0 := hzW _ lt0
      have mt1 := hzW _ lt1
      clear p0 p1 p2 p3 p4 p5 p6 u0 u1 hcW hfW hzW hbW HI lt0 lt1
      go_wp2_with fail
      go_at_call 17; refine (toChart_c _ _ _ hn _ (Ints.step hbelW hA)).mono ?_; rintro e w3 ⟨g3, rfl, hg3, hB3, hb3⟩; obtain ⟨hc3, hf3, hz3⟩ := bel hb3; (try simp only [World.size_drew, World.cell?_drew, World.frozen?_drew] at hc3 hf3 hz3); (try simp only [World.heap_drewN, World.cell?_drewN, World.frozen?_drewN] at hc3 hf3 hz3); (try have hl3 : w.heap.size < w3.heap.size := by (have hq := hb3.size; (try simp at hq); omega)); (try have hm3 : w.heap.size + 1 < w3.heap.size := by (have hq := hb3.size; (try simp at hq); omega)); (try have hn3 : w.heap.size + 1 + 1 < w3.heap.size := by (have hq := hb3.size; (try simp at hq); omega)); (try have hp3 : b < w3.heap.size := by (have hq := hb3.size; (try simp at hq); omega)); (try have ho3 : b' < w3.heap.size := by (have hq := hb3.size; (try simp at hq); omega))
      go_wp2
      generalize hV : w3.alloc (.cells #[.int .i64 C.dg, .int .i64 C.tn, .string C.nm, .slice (some ⟨g3, 0, none⟩) C.zs.length C.zs.length, .int .i64 C.wd, .int .i64 C.lf, .int .i64 C.rt] 35) = V
      have hbV : Below W.heap.size W V := by rw [← hV]; repeat (with_reducible first | exact Below.refl _ _ | assumption | refine Bel.alloc ?_ _ | refine Bel.step (by assumption) ?_ | refine Below.drew ?_ | refine Bel.drewN ?_ _ | refine Below.setCell ?_ (by first | exact Nat.le_refl _ | omega | (simp; done) | (simp; omega)) _)
      have hBV : Blk V w3.heap.size 35 #[.int .i64 C.dg, .int .i64 C.tn, .string C.nm, .slice (some ⟨g3, 0, none⟩) C.zs.length C.zs.length, .int .i64 C.wd, .int .i64 C.lf, .int .i64 C.rt] := by rw [← hV]; exact Blk.new _ _ _
      have HJ : Hid (Ints V (some ⟨g3, 0, none⟩) C.zs) := by rw [← hV]; exact Ints.alloc _ hB3.ints
      obtain ⟨hcV, hfV, hzV⟩ := bel hbV
      have hbelV := Bel.step hbV hbelW
      have HI := Lib.hid (Ints.step hbelV hA)
      have p0 := (hcV _ _ mt0).trans P0
      have p1 := (hcV _ _ mt0).trans P1
      have p2 := (hcV _ _ mt0).trans P2
      have p3 := (hcV _ _ mt0).trans P3
      have p4 := (hcV _ _ mt0).trans P4
      have p5 := (hcV _ _ mt0).trans P5
      have p6 := (hcV _ _ mt0).trans P6
      have u0 := (hcV _ _ mt1).trans uA
      have u1 := (hcV _ _ mt1).trans uB
      have lt0 := hzV _ mt0
      have lt1 := hzV _ mt1
      have e0 := (hcV _ _ hX0).trans h0
      have e1 := (hcV _ _ hX0).trans h1
      have hXV0 := hzV _ hX0
      obtain ⟨x0, x1, x2, x3, x4, x5, x6⟩ := Blk.chart hBV
      have hY := hBV.lt
      generalize w3.heap.size = Y at hY x0 x1 x2 x3 x4 x5 x6 ⊢
      clear hV hBV hb3 hc3 hf3 hz3 hB3 P0 P1 P2 P3 P4 P5 P6 uA uB mt0 mt1 h0 h1 hX0
      apply cut_ChartPoint
      · intro key
        go_region_held3 (fun w' => (w'.cell? ⟨Y, 0, none⟩ = some (.int .i64 C.dg) ∧ w'.cell? ⟨Y, 1, none⟩ = some (.int .i64 C.tn) ∧ w'.cell? ⟨Y, 2, none⟩ = some (.string C.nm) ∧ w'.cell? ⟨Y, 3, none⟩ = some (.slice (some ⟨g3, 0, none⟩) C.zs.length C.zs.length) ∧ w'.cell? ⟨Y, 4, none⟩ = some (.int .i64 C.wd) ∧ w'.cell? ⟨Y, 5, none⟩ = some (.int .i64 C.lf) ∧ w'.cell? ⟨Y, 6, none⟩ = some (.int .i64 C.rt)) ∧ w'.cell? ⟨w.heap.size + 1, 0, none⟩ = some (.int .i64 ud) ∧ w'.cell? ⟨w.heap.size + 1, 1, none⟩ = some (.int .i64 ut)) (simp [go_sem, *])
            (first | (go_at_call_of 51 (Value.agg #[Value.int IntKind.i64 ud, Value.int IntKind.i64 ut]); refine (toFigure_c _ _ _).mono ?_; rintro e wu ⟨rfl, hbu⟩; obtain ⟨hcu, hfu, hzu⟩ := bel hbu; (try simp only [World.size_drew, World.cell?_drew, World.frozen?_drew] at hcu hfu hzu); (try simp only [World.heap_drewN, World.cell?_drewN, World.frozen?_drewN] at hcu hfu hzu); (try have hlu : w.heap.size < wu.heap.size := by (have hq := hbu.size; (try simp at hq); omega)); (try have hmu : w.heap.size + 1 < wu.heap.size := by (have hq := hbu.size; (try simp at hq); omega)); (try have hnu : w.heap.size + 1 + 1 < wu.heap.size := by (have hq := hbu.size; (try simp at hq); omega)); (try have hpu : b < wu.heap.size := by (have hq := hbu.size; (try simp at hq); omega)); (try have hou : b' < wu.heap.size := by (have hq := hbu.size; (try simp at hq); omega)); (try (have yluV : V.heap.size < wu.heap.size := hzu _ (by first | assumption | (simp; done)); have ycuV0 : wu.cell? ⟨V.heap.size, 0, none⟩ = some (.int .i64 0) := (hcu _ _ (by first | assumption | (simp; done))).trans (by first | assumption | (simp [go_sem]; done)); have ycuV1 : wu.cell? ⟨V.heap.size, 1, none⟩ = some (.int .i64 0) := (hcu _ _ (by first | assumption | (simp; done))).trans (by first | assumption | (simp [go_sem]; done)); have yfuV0 : wu.frozen? ⟨V.heap.size, 0, none⟩ = false := (hfu _ _ (by first | assumption | (simp; done))).trans (by first | assumption | (simp [go_sem]; done)); have yfuV1 : wu.frozen? ⟨V.heap.size, 1, none⟩ = false := (hfu _ _ (by first | assumption | (simp; done))).trans (by first | assumption | (simp [go_sem]; done)))); (try have yyuY : Y < wu.heap.size := hzu _ (by first | assumption | (simp; done) | (simp; omega)))) | (go_at_call 55; refine (ChartPoint_I _ _ _ _ _ _ hn hm _ (by repeat (with_reducible first | exact HJ.out | assumption | refine Ints.drew ?_ | refine Ints.drewN _ ?_ | refine Ints.alloc _ ?_ | refine Ints.step (by assumption) ?_))).mono ?_; rintro e wx ⟨rfl, hbx⟩; obtain ⟨hcx, hfx, hzx⟩ := bel hbx; (try simp only [World.size_drew, World.cell?_drew, World.frozen?_drew] at hcx hfx hzx); (try simp only [World.heap_drewN, World.cell?_drewN, World.frozen?_drewN] at hcx hfx hzx); (try have hlx : w.heap.size < wx.heap.size := by (have hq := hbx.size; (try simp at hq); omega)); (try have hmx : w.heap.size + 1 < wx.heap.size := by (have hq := hbx.size; (try simp at hq); omega)); (try have hnx : w.heap.size + 1 + 1 < wx.heap.size := by (have hq := hbx.size; (try simp at hq); omega)); (try have hpx : b < wx.heap.size := by (have hq := hbx.size; (try simp at hq); omega)); (try have hox : b' < wx.heap.size := by (have hq := hbx.size; (try simp at hq); omega)); (try (have ylxV : V.heap.size < wx.heap.size := hzx _ (by first | assumption | (simp; done)); have ycxV0 : wx.cell? ⟨V.heap.size, 0, none⟩ = some (.int .i64 0) := (hcx _ _ (by first | assumption | (simp; done))).trans (by first | assumption | (simp [go_sem]; done)); have ycxV1 : wx.cell? ⟨V.heap.size, 1, none⟩ = some (.int .i64 0) := (hcx _ _ (by first | assumption | (simp; done))).trans (by first | assumption | (simp [go_sem]; done)); have yfxV0 : wx.frozen? ⟨V.heap.size, 0, none⟩ = false := (hfx _ _ (by first | assumption | (simp; done))).trans (by first | assumption | (simp [go_sem]; done)); have yfxV1 : wx.frozen? ⟨V.heap.size, 1, none⟩ = false := (hfx _ _ (by first | assumption | (simp; done))).trans (by first | assumption | (simp [go_sem]; done)))); (try (have ylxwu : wu.heap.size < wx.heap.size := hzx _ (by first | assumption | (simp; done)); have ycxwu0 : wx.cell? ⟨wu.heap.size, 0, none⟩ = some (.int .i64 0) := (hcx _ _ (by first | assumption | (simp; done))).trans (by first | assumption | (simp [go_sem]; done)); have ycxwu1 : wx.cell? ⟨wu.heap.size, 1, none⟩ = some (.int .i64 0) := (hcx _ _ (by first | assumption | (simp; done))).trans (by first | assumption | (simp [go_sem]; done)); have yfxwu0 : wx.frozen? ⟨wu.heap.size, 0, none⟩ = false := (hfx _ _ (by first | assumption | (simp; done))).trans (by first | assumption | (simp [go_sem]; done)); have yfxwu1 : wx.frozen? ⟨wu.heap.size, 1, none⟩ = false := (hfx _ _ (by first | assumption | (simp; done))).trans (by first | assumption | (simp [go_sem]; done)))); (try have yyxY : Y < wx.heap.size := hzx _ (by first | assumption | (simp; done) | (simp; omega)))))
        · generalize hW : (wx.alloc (.cells #[.int .i64 (ptX C sc ud ut), .int .i64 (ptY C sc ud ut)] 85)) = W
          have hbW : Below V.heap.size V W := by rw [← hW]; repeat (with_reducible first | exact Below.refl _ _ | assumption | refine Bel.alloc ?_ _ | refine Bel.step (by assumption) ?_ | refine Below.drew ?_ | refine Bel.drewN ?_ _ | refine Below.setCell ?_ (by first | exact Nat.le_refl _ | omega | (simp; done) | (simp; omega)) _)
          have h0 : W.cell? ⟨wx.heap.size, 0, none⟩ = some (.int .i64 (ptX C sc ud ut)) := by rw [← hW]; simp [go_sem]
          have h1 : W.cell? ⟨wx.heap.size, 1, none⟩ = some (.int .i64 (ptY C sc ud ut)) := by rw [← hW]; simp [go_sem]
          have hX0 : wx.heap.size < W.heap.size := by rw [← hW]; first | (simp; done) | (simp; omega)
          clear hW
          generalize wx.heap.size = X0 at h0 h1 hX0 ⊢
          revert hbW h0 h1 hX0
          revert W X0
          exact key.out
        all_goals
          have zu : V.heap.size ≤ wu.heap.size := by have := hbu.size; (try simp at this); omega
          refine key.out _ _ ?_ ?_ ?_ ?_
          · repeat (with_reducible first | exact Below.refl _ _ | assumption | refine Bel.alloc ?_ _ | refine Bel.step (by assumption) ?_ | refine Below.drew ?_ | refine Bel.drewN ?_ _ | refine Below.setCell ?_ (by first | exact Nat.le_refl _ | omega | (simp; done) | (simp; omega)) _)
          all_goals first | (simp [go_sem, *]; done) | (simp; omega) | omega
      · intro U Z0 hbU k0 k1 hZ0
        obtain ⟨hcU, hfU, hzU⟩ := bel hbU
        have hbelU := Bel.step hbU hbelV
        have P0 := (hcU _ _ lt0).trans p0
        have Q0 := (hcU _ _ hY).trans x0
        have P1 := (hcU _ _ lt0).trans p1
        have Q1 := (hcU _ _ hY).trans x1
        have P2 := (hcU _ _ lt0).trans p2
        have Q2 := (hcU _ _ hY).trans x2
        have P3 := (hcU _ _ lt0).trans p3
        have Q3 := (hcU _ _ hY).trans x3
        have P4 := (hcU _ _ lt0).trans p4
        have Q4 := (hcU _ _ hY).trans x4
        have P5 := (hcU _ _ lt0).trans p5
        have Q5 := (hcU _ _ hY).trans x5
        have P6 := (hcU _ _ lt0).trans p6
        have Q6 := (hcU _ _ hY).trans x6
        have mt0 := hzU _ lt0
        have hY2 := hzU _ hY
        have d0 := (hcU _ _ hXV0).trans e0
        have d1 := (hcU _ _ hXV0).trans e1
        have hX10 := hzU _ hXV0
        have HI2 := Lib.hid (Ints.step hbelU hA)
        have HJ2 := Lib.hid (Ints.step hbU HJ.out)
        clear hbU hcU hfU hzU HI HJ p0 x0 p1 x1 p2 x2 p3 x3 p4 x4 p5 x5 p6 x6 lt0 hY e0 e1 hXV0
        go_wp2_with fail
        go_at_call 56; refine (eqPoint_c _ _ _ _ _).mono ?_; rintro e w9 ⟨rfl, hb9⟩; obtain ⟨hc9, hf9, hz9⟩ := bel hb9; (try simp only [World.size_drew, World.cell?_drew, World.frozen?_drew] at hc9 hf9 hz9); (try simp only [World.heap_drewN, World.cell?_drewN, World.frozen?_drewN] at hc9 hf9 hz9); (try have hl9 : w.heap.size < w9.heap.size := by (have hq := hb9.size; (try simp at hq); omega)); (try have hm9 : w.heap.size + 1 < w9.heap.size := by (have hq := hb9.size; (try simp at hq); omega)); (try have hn9 : w.heap.size + 1 + 1 < w9.heap.size := by (have hq := hb9.size; (try simp at hq); omega)); (try have hp9 : b < w9.heap.size := by (have hq := hb9.size; (try simp at hq); omega)); (try have ho9 : b' < w9.heap.size := by (have hq := hb9.size; (try simp at hq); omega))
        rw [eqP_self]
        have HI2_ := Lib.hid (Ints.step hb9 HI2.out)
        have HJ2_ := Lib.hid (Ints.step hb9 HJ2.out)
        have P0_ := (hc9 _ _ mt0).trans P0
        have Q0_ := (hc9 _ _ hY2).trans Q0
        have P1_ := (hc9 _ _ mt0).trans P1
        have Q1_ := (hc9 _ _ hY2).trans Q1
        have P2_ := (hc9 _ _ mt0).trans P2
        have Q2_ := (hc9 _ _ hY2).trans Q2
        have P3_ := (hc9 _ _ mt0).trans P3
        have Q3_ := (hc9 _ _ hY2).trans Q3
        have P4_ := (hc9 _ _ mt0).trans P4
        have Q4_ := (hc9 _ _ hY2).trans Q4
        have P5_ := (hc9 _ _ mt0).trans P5
        have Q5_ := (hc9 _ _ hY2).trans Q5
        have P6_ := (hc9 _ _ mt0).trans P6
        have Q6_ := (hc9 _ _ hY2).trans Q6
        have mt0_ := hz9 _ mt0
        have hY2_ := hz9 _ hY2
        have hbel9 := Bel.step hb9 hbelU
        clear hb9 hc9 hf9 hz9 HI2 HJ2 P0 Q0 P1 Q1 P2 Q2 P3 Q3 P4 Q4 P5 Q5 P6 Q6 mt0 hY2
        have HI := HI2_
        have HJ := HJ2_
        have lt0 := mt0_
        have hY := hY2_
        clear HI2_ HJ2_ mt0_ hY2_
        go_wp2
        go_region_held3 (fun w' => (w'.cell? ⟨w.heap.size, 0, none⟩ = some (.int .i64 C.dg) ∧ w'.cell? ⟨w.heap.size, 1, none⟩ = some (.int .i64 C.tn) ∧ w'.cell? ⟨w.heap.size, 2, none⟩ = some (.string C.nm) ∧ w'.cell? ⟨w.heap.size, 3, none⟩ = some (.slice A C.zs.length c) ∧ w'.cell? ⟨w.heap.size, 4, none⟩ = some (.int .i64 C.wd) ∧ w'.cell? ⟨w.heap.size, 5, none⟩ = some (.int .i64 C.lf) ∧ w'.cell? ⟨w.heap.size, 6, none⟩ = some (.int .i64 C.rt)) ∧ w'.cell? ⟨Y, 0, none⟩ = some (.int .i64 C.dg) ∧ w'.cell? ⟨Y, 1, none⟩ = some (.int .i64 C.tn) ∧ w'.cell? ⟨Y, 2, none⟩ = some (.string C.nm) ∧ w'.cell? ⟨Y, 3, none⟩ = some (.slice (some ⟨g3, 0, none⟩) C.zs.length C.zs.length) ∧ w'.cell? ⟨Y, 4, none⟩ = some (.int .i64 C.wd) ∧ w'.cell? ⟨Y, 5, none⟩ = some (.int .i64 C.lf) ∧ w'.cell? ⟨Y, 6, none⟩ = some (.int .i64 C.rt)) (simp [go_sem, *])
            (first | (go_at_call 17; refine (toChart_c _ _ _ hn _ (by repeat (with_reducible first | exact HI.out | assumption | refine Ints.drew ?_ | refine Ints.drewN _ ?_ | refine Ints.alloc _ ?_ | refine Ints.step (by assumption) ?_))).mono ?_; rintro e w1 ⟨g1, rfl, hg1, hB1, hb1⟩; obtain ⟨hc1, hf1, hz1⟩ := bel hb1; (try simp only [World.size_drew, World.cell?_drew, World.frozen?_drew] at hc1 hf1 hz1); (try simp only [World.heap_drewN, World.cell?_drewN, World.frozen?_drewN] at hc1 hf1 hz1); (try have hl1 : w.heap.size < w1.heap.size := by (have hq := hb1.size; (try simp at hq); omega)); (try have hm1 : w.heap.size + 1 < w1.heap.size := by (have hq := hb1.size; (try simp at hq); omega)); (try have hn1 : w.heap.size + 1 + 1 < w1.heap.size := by (have hq := hb1.size; (try simp at hq); omega)); (try have hp1 : b < w1.heap.size := by (have hq := hb1.size; (try simp at hq); omega)); (try have ho1 : b' < w1.heap.size := by (have hq := hb1.size; (try simp at hq); omega))) | (go_at_call 19; refine (eqChart_c _ _ _ _ _ hn _ (by repeat (with_reducible first | exact HJ.out | assumption | refine Ints.drew ?_ | refine Ints.drewN _ ?_ | refine Ints.alloc _ ?_ | refine Ints.step (by assumption) ?_)) (by repeat (with_reducible first | exact hB1.ints | refine Ints.drewN _ ?_ | refine Ints.drew ?_))).mono ?_; rintro e w1 ⟨rfl, hb1⟩; obtain ⟨hc1, hf1, hz1⟩ := bel hb1; (try simp only [World.size_drew, World.cell?_drew, World.frozen?_drew] at hc1 hf1 hz1); (try simp only [World.heap_drewN, World.cell?_drewN, World.frozen?_drewN] at hc1 hf1 hz1); (try have hl1 : w.heap.size < w1.heap.size := by (have hq := hb1.size; (try simp at hq); omega)); (try have hm1 : w.heap.size + 1 < w1.heap.size := by (have hq := hb1.size; (try simp at hq); omega)); (try have hn1 : w.heap.size + 1 + 1 < w1.heap.size := by (have hq := hb1.size; (try simp at hq); omega)); (try have hp1 : b < w1.heap.size := by (have hq := hb1.size; (try simp at hq); omega)); (try have ho1 : b' < w1.heap.size := by (have hq := hb1.size; (try simp at hq); omega))))
        all_goals
          go_wp2
          go_ret
          exact ⟨rfl, by repeat (with_reducible first | exact Below.refl _ _ | assumption | refine Bel.alloc ?_ _ | refine Bel.step (by assumption) ?_ | refine Below.drew ?_ | refine Bel.drewN ?_ _ | refine Below.setCell ?_ (by first | exact Nat.le_refl _ | omega | (simp; done) | (simp; omega)) _)⟩
  · have HZ := Lib.hid (sz2_no hz)
    go_enter Try.func13, Try.ntmps13
    go_wp2_with fail
    go_at_call 15; refine (szChart_c _ _ _ _ (by omega) (by omega) (by assumption) (by assumption) _).mono ?_; rintro e w1 ⟨rfl, hb1⟩; obtain ⟨hc1, hf1, hz1⟩ := bel hb1; (try simp only [World.size_drew, World.cell?_drew, World.frozen?_drew] at hc1 hf1 hz1); (try simp only [World.heap_drewN, World.cell?_drewN, World.frozen?_drewN] at hc1 hf1 hz1); (try have hl1 : w.heap.size < w1.heap.size := by (have hq := hb1.size; (try simp at hq); omega)); (try have hm1 : w.heap.size + 1 < w1.heap.size := by (have hq := hb1.size; (try simp at hq); omega)); (try have hn1 : w.heap.size + 1 + 1 < w1.heap.size := by (have hq := hb1.size; (try simp at hq); omega)); (try have hp1 : b < w1.heap.size := by (have hq := hb1.size; (try simp at hq); omega)); (try have ho1 : b' < w1.heap.size := by (have hq := hb1.size; (try simp at hq); omega))
    rw [HZ.out]
    go_wp2
    go_ret
    exact ⟨rfl, by repeat (with_reducible first | exact Below.refl _ _ | assumption | refine Bel.alloc ?_ _ | refine Bel.step (by assumption) ?_ | refine Below.drew ?_ | refine Bel.drewN ?_ _ | refine Below.setCell ?_ (by first | exact Nat.le_refl _ | omega | (simp; done) | (simp; omega)) _)⟩
end Go.Proofs.Ytjhkpejejkkjlaa
