/- The statement FnExactGreatestModulus, walked. No conditions. -/
import Derived.Test.YteldaadpcponfaaProg
import Derived.Test.YteldaadpcponfaaBase
import Derived.Test.YteldaadpcponfaaL01
import Derived.Test.YteldaadpcponfaaCp
import Derived.Test.YteldaadpcponfaaCh
import Derived.Test.YteldaadpcponfaaL18
import Derived.Test.YteldaadpcponfaaW23
import Derived.Test.YteldaadpcponfaaRw
import Derived.Test.YteldaadpcponfaaL23
import Derived.Test.YteldaadpcponfaaL23b
import Derived.Test.YteldaadpcponfaaL03
import Derived.Test.YteldaadpcponfaaL23d
import Derived.Test.YteldaadpcponfaaL23e
import Derived.Test.YteldaadpcponfaaL23f
import Derived.Test.YteldaadpcponfaaL24
import Derived.Test.YteldaadpcponfaaL24b
import Derived.Test.YteldaadpcponfaaL23g
import Derived.Test.YteldaadpcponfaaL23h
import Derived.Test.YteldaadpcponfaaL23i
import Derived.Test.YteldaadpcponfaaL26g
import Derived.WalkKit
import Derived.WalkSpells
import Derived.WalkLawsBesides
import Derived.Lib.Hide
import Derived.Deep.QuietTactic
import Derived.BigQuiet
import Derived.Deep.Draws
import Derived.Deep.RegionHeld3
namespace Go.Proofs.Yteldaadpcponfaa
open Go.RowKit
set_option linter.unusedVariables false
/-- A fact that the walk does not look into. -/
structure BoxGreatestModulus (P : Prop) : Prop where
  out : P
theorem cut_GreatestModulus {G : Prop} (P : Prop) (k : BoxGreatestModulus P → G) (h : P) : G := k ⟨h⟩
set_option maxRecDepth 50000 in
set_option maxHeartbeats 2000000 in
theorem FnExactGreatestModulus_w (w : World) (C : Ch) (A : Option Addr) (c : Nat) (hl : C.zs.length ≤ 9223372036854775807) (hA : Ints w A C.zs) (hs : C.nm.size ≤ 9223372036854775807) (ud ut : Int) (gud : (Lit.int .i64 ud).wf = true) (gut : (Lit.int .i64 ut).wf = true) (vd vt : Int) (gvd : (Lit.int .i64 vd).wf = true) (gvt : (Lit.int .i64 vt).wf = true) (mo : Int) (gmo : (Lit.int .i64 mo).wf = true) :
    Calls Try.prog 9 #[.agg #[.int .i64 C.dg, .int .i64 C.tn, .string C.nm, .slice A C.zs.length c, .int .i64 C.wd, .int .i64 C.lf, .int .i64 C.rt], .agg #[.int .i64 ud, .int .i64 ut], .agg #[.int .i64 vd, .int .i64 vt], .int .i64 mo] w fun e w' => e = .returned (.bool true) ∧ Below w.heap.size w w' := by
  by_cases hz : C.nm.size + C.zs.length ≤ 1048576
  · have HZ := Lib.hid (sz2_ok hz)
    have hn : C.zs.length ≤ 1048576 := by omega
    have hm : C.nm.size ≤ 1048576 := by omega
    have hn0 : (0 : Int) ≤ 1048576 - C.nm.size - C.zs.length := by omega
    clear hz
    go_enter Try.func9, Try.ntmps9
    go_wp2_with fail
    go_at_call 15; refine (szChart_c _ _ _ _ (by omega) (by omega) (by assumption) (by assumption) _).mono ?_; rintro e w1 ⟨rfl, hb1⟩; obtain ⟨hc1, hf1, hz1⟩ := bel hb1; (try simp only [World.size_drew, World.cell?_drew, World.frozen?_drew] at hc1 hf1 hz1); (try simp only [World.heap_drewN, World.cell?_drewN, World.frozen?_drewN] at hc1 hf1 hz1); (try have hl1 : w.heap.size < w1.heap.size := by (have hq := hb1.size; (try simp at hq); omega)); (try have hm1 : w.heap.size + 1 < w1.heap.size := by (have hq := hb1.size; (try simp at hq); omega)); (try have hn1 : w.heap.size + 1 + 1 < w1.heap.size := by (have hq := hb1.size; (try simp at hq); omega)); (try have hp1 : b < w1.heap.size := by (have hq := hb1.size; (try simp at hq); omega)); (try have ho1 : b' < w1.heap.size := by (have hq := hb1.size; (try simp at hq); omega))
    rw [HZ.out]
    have hbel1 : Below w.heap.size w w1 := by repeat (with_reducible first | exact Below.refl _ _ | assumption | refine Bel.alloc ?_ _ | refine Bel.step (by assumption) ?_ | refine Below.drew ?_ | refine Bel.drewN ?_ _ | refine Below.setCell ?_ (by first | exact Nat.le_refl _ | omega | (simp; done) | (simp; omega)) _)
    have lt0 : w.heap.size < w1.heap.size := by have := hb1.size; simp at this; omega
    have lt1 : w.heap.size + 1 < w1.heap.size := by have := hb1.size; simp at this; omega
    have lt2 : w.heap.size + 1 + 1 < w1.heap.size := by have := hb1.size; simp at this; omega
    have p0 : w1.cell? ⟨w.heap.size, 0, none⟩ = some (.int .i64 C.dg) := by simp [go_sem, *]
    have p1 : w1.cell? ⟨w.heap.size, 1, none⟩ = some (.int .i64 C.tn) := by simp [go_sem, *]
    have p2 : w1.cell? ⟨w.heap.size, 2, none⟩ = some (.string C.nm) := by simp [go_sem, *]
    have p3 : w1.cell? ⟨w.heap.size, 3, none⟩ = some (.slice A C.zs.length c) := by simp [go_sem, *]
    have p4 : w1.cell? ⟨w.heap.size, 4, none⟩ = some (.int .i64 C.wd) := by simp [go_sem, *]
    have p5 : w1.cell? ⟨w.heap.size, 5, none⟩ = some (.int .i64 C.lf) := by simp [go_sem, *]
    have p6 : w1.cell? ⟨w.heap.size, 6, none⟩ = some (.int .i64 C.rt) := by simp [go_sem, *]
    have u0 : w1.cell? ⟨w.heap.size + 1, 0, none⟩ = some (.int .i64 ud) := by simp [go_sem, *]
    have u1 : w1.cell? ⟨w.heap.size + 1, 1, none⟩ = some (.int .i64 ut) := by simp [go_sem, *]
    have v0 : w1.cell? ⟨w.heap.size + 1 + 1, 0, none⟩ = some (.int .i64 vd) := by simp [go_sem, *]
    have v1 : w1.cell? ⟨w.heap.size + 1 + 1, 1, none⟩ = some (.int .i64 vt) := by simp [go_sem, *]
    have HI := Lib.hid (Ints.step hbel1 hA)
    clear hb1 hc1 hf1 hz1
    go_wp2
    apply cut_GreatestModulus
    · intro key
      go_region_held3 (fun w' => (w'.cell? ⟨w.heap.size, 0, none⟩ = some (.int .i64 C.dg) ∧ w'.cell? ⟨w.heap.size, 1, none⟩ = some (.int .i64 C.tn) ∧ w'.cell? ⟨w.heap.size, 2, none⟩ = some (.string C.nm) ∧ w'.cell? ⟨w.heap.size, 3, none⟩ = some (.slice A C.zs.length c) ∧ w'.cell? ⟨w.heap.size, 4, none⟩ = some (.int .i64 C.wd) ∧ w'.cell? ⟨w.heap.size, 5, none⟩ = some (.int .i64 C.lf) ∧ w'.cell? ⟨w.heap.size, 6, none⟩ = some (.int .i64 C.rt)) ∧ w'.cell? ⟨w.heap.size + 1, 0, none⟩ = some (.int .i64 ud) ∧ w'.cell? ⟨w.heap.size + 1, 1, none⟩ = some (.int .i64 ut) ∧ w'.cell? ⟨w.heap.size + 1 + 1, 0, none⟩ = some (.int .i64 vd) ∧ w'.cell? ⟨w.heap.size + 1 + 1, 1, none⟩ = some (.int .i64 vt)) (simp [go_sem, *])
          (first | (go_at_call 17; refine (toChart_c _ _ _ hn _ (by repeat (with_reducible first | exact HI.out | assumption | refine Ints.drew ?_ | refine Ints.drewN _ ?_ | refine Ints.alloc _ ?_ | refine Ints.step (by assumption) ?_))).mono ?_; rintro e wa ⟨ga, rfl, hga, hBa, hba⟩; obtain ⟨hca, hfa, hza⟩ := bel hba; (try simp only [World.size_drew, World.cell?_drew, World.frozen?_drew] at hca hfa hza); (try simp only [World.heap_drewN, World.cell?_drewN, World.frozen?_drewN] at hca hfa hza); (try have hla : w.heap.size < wa.heap.size := by (have hq := hba.size; (try simp at hq); omega)); (try have hma : w.heap.size + 1 < wa.heap.size := by (have hq := hba.size; (try simp at hq); omega)); (try have hna : w.heap.size + 1 + 1 < wa.heap.size := by (have hq := hba.size; (try simp at hq); omega)); (try have hpa : b < wa.heap.size := by (have hq := hba.size; (try simp at hq); omega)); (try have hoa : b' < wa.heap.size := by (have hq := hba.size; (try simp at hq); omega))) | (go_at_call_of 18 (Value.agg #[Value.int IntKind.i64 ud, Value.int IntKind.i64 ut]); refine (toFigure_c _ _ _).mono ?_; rintro e wu ⟨rfl, hbu⟩; obtain ⟨hcu, hfu, hzu⟩ := bel hbu; (try simp only [World.size_drew, World.cell?_drew, World.frozen?_drew] at hcu hfu hzu); (try simp only [World.heap_drewN, World.cell?_drewN, World.frozen?_drewN] at hcu hfu hzu); (try have hlu : w.heap.size < wu.heap.size := by (have hq := hbu.size; (try simp at hq); omega)); (try have hmu : w.heap.size + 1 < wu.heap.size := by (have hq := hbu.size; (try simp at hq); omega)); (try have hnu : w.heap.size + 1 + 1 < wu.heap.size := by (have hq := hbu.size; (try simp at hq); omega)); (try have hpu : b < wu.heap.size := by (have hq := hbu.size; (try simp at hq); omega)); (try have hou : b' < wu.heap.size := by (have hq := hbu.size; (try simp at hq); omega))) | (go_at_call_of 18 (Value.agg #[Value.int IntKind.i64 vd, Value.int IntKind.i64 vt]); refine (toFigure_c _ _ _).mono ?_; rintro e wv ⟨rfl, hbv⟩; obtain ⟨hcv, hfv, hzv⟩ := bel hbv; (try simp only [World.size_drew, World.cell?_drew, World.frozen?_drew] at hcv hfv hzv); (try simp only [World.heap_drewN, World.cell?_drewN, World.frozen?_drewN] at hcv hfv hzv); (try have hlv : w.heap.size < wv.heap.size := by (have hq := hbv.size; (try simp at hq); omega)); (try have hmv : w.heap.size + 1 < wv.heap.size := by (have hq := hbv.size; (try simp at hq); omega)); (try have hnv : w.heap.size + 1 + 1 < wv.heap.size := by (have hq := hbv.size; (try simp at hq); omega)); (try have hpv : b < wv.heap.size := by (have hq := hbv.size; (try simp at hq); omega)); (try have hov : b' < wv.heap.size := by (have hq := hbv.size; (try simp at hq); omega))) | (go_at_call 33; refine (GreatestModulus_S _ _ _ _ _ _ _ _ hn hm _ (by repeat (with_reducible first | exact hBa.ints | refine Ints.drewN _ ?_ | refine Ints.drew ?_ | refine Ints.alloc _ ?_ | refine Ints.step (by assumption) ?_))).mono ?_; rintro e wx ⟨rfl, hbx⟩; obtain ⟨hcx, hfx, hzx⟩ := bel hbx; (try simp only [World.size_drew, World.cell?_drew, World.frozen?_drew] at hcx hfx hzx); (try simp only [World.heap_drewN, World.cell?_drewN, World.frozen?_drewN] at hcx hfx hzx); (try have hlx : w.heap.size < wx.heap.size := by (have hq := hbx.size; (try simp at hq); omega)); (try have hmx : w.heap.size + 1 < wx.heap.size := by (have hq := hbx.size; (try simp at hq); omega)); (try have hnx : w.heap.size + 1 + 1 < wx.heap.size := by (have hq := hbx.size; (try simp at hq); omega)); (try have hpx : b < wx.heap.size := by (have hq := hbx.size; (try simp at hq); omega)); (try have hox : b' < wx.heap.size := by (have hq := hbx.size; (try simp at hq); omega))))
      · have hbW : Below w1.heap.size w1 wx := by repeat (with_reducible first | exact Below.refl _ _ | assumption | refine Bel.alloc ?_ _ | refine Bel.step (by assumption) ?_ | refine Below.drew ?_ | refine Bel.drewN ?_ _ | refine Below.setCell ?_ (by first | exact Nat.le_refl _ | omega | (simp; done) | (simp; omega)) _)
        generalize wx = W at hbW ⊢
        generalize ga = G
        revert hbW
        revert W G
        exact key.out
    · intro W G hbW
      obtain ⟨hcW, hfW, hzW⟩ := bel hbW
      have hbelW := Bel.step hbW hbel1
      have P0 := (hcW _ _ lt0).trans p0
      have P1 := (hcW _ _ lt0).trans p1
      have P2 := (hcW _ _ lt0).trans p2
      have P3 := (hcW _ _ lt0).trans p3
      have P4 := (hcW _ _ lt0).trans p4
      have P5 := (hcW _ _ lt0).trans p5
      have P6 := (hcW _ _ lt0).trans p6
      have uA := (hcW _ _ lt1).trans u0
      have uB := (hcW _ _ lt1).trans u1
      have vA := (hcW _ _ lt2).trans v0
      have vB := (hcW _ _ lt2).trans v1
      have mt0 := hzW _ lt0
      have mt1 := hzW _ lt1
      have mt2 := hzW _ lt2
      clear p0 p1 p2 p3 p4 p5 p6 u0 u1 v0 v1 hcW hfW hzW hbW HI lt0 lt1 lt2
      go_wp2_with fail
      go_at_call 17; refine (toChart_c _ _ _ hn _ (Ints.step hbelW hA)).mono ?_; rintro e w3 ⟨g3, rfl, hg3, hB3, hb3⟩; obtain ⟨hc3, hf3, hz3⟩ := bel hb3; (try simp only [World.size_drew, World.cell?_drew, World.frozen?_drew] at hc3 hf3 hz3); (try simp only [World.heap_drewN, World.cell?_drewN, World.frozen?_drewN] at hc3 hf3 hz3); (try have hl3 : w.heap.size < w3.heap.size := by (have hq := hb3.size; (try simp at hq); omega)); (try have hm3 : w.heap.size + 1 < w3.heap.size := by (have hq := hb3.size; (try simp at hq); omega)); (try have hn3 : w.heap.size + 1 + 1 < w3.heap.size := by (have hq := hb3.size; (try simp at hq); omega)); (try have hp3 : b < w3.heap.size := by (have hq := hb3.size; (try simp at hq); omega)); (try have ho3 : b' < w3.heap.size := by (have hq := hb3.size; (try simp at hq); omega))
      go_wp2
      generalize hV : w3.alloc (.cells #[.int .i64 C.dg, .int .i64 C.tn, .string C.nm, .slice (some ⟨g3, 0, none⟩) C.zs.length C.zs.length, .int .i64 C.wd, .int .i64 C.lf, .int .i64 C.rt] 38) = V
      have hbV : Below W.heap.size W V := by rw [← hV]; repeat (with_reducible first | exact Below.refl _ _ | assumption | refine Bel.alloc ?_ _ | refine Bel.step (by assumption) ?_ | refine Below.drew ?_ | refine Bel.drewN ?_ _ | refine Below.setCell ?_ (by first | exact Nat.le_refl _ | omega | (simp; done) | (simp; omega)) _)
      have hBV : Blk V w3.heap.size 38 #[.int .i64 C.dg, .int .i64 C.tn, .string C.nm, .slice (some ⟨g3, 0, none⟩) C.zs.length C.zs.length, .int .i64 C.wd, .int .i64 C.lf, .int .i64 C.rt] := by rw [← hV]; exact Blk.new _ _ _
      have HJ : Hid (Ints V (some ⟨g3, 0, none⟩) C.zs) := by rw [← hV]; exact Ints.alloc _ hB3.ints
      obtain ⟨hcV, hfV, hzV⟩ := bel hbV
      have hbelV := Bel.step hbV hbelW
      have HI := Lib.hid (Ints.step hbelV hA)
      have p0 := (hcV _ _ mt0).trans P0
      have p1 := (hcV _ _ mt0).trans P1
      have p2 := (hcV _ _ mt0).trans P2
      have p3 := (hcV _ _ mt0).trans P3
      have p4 := (hcV _ _ mt0).trans P4
      have p5 := (hcV _ _ mt0).trans P5
      have p6 := (hcV _ _ mt0).trans P6
      have u0 := (hcV _ _ mt1).trans uA
      have u1 := (hcV _ _ mt1).trans uB
      have v0 := (hcV _ _ mt2).trans vA
      have v1 := (hcV _ _ mt2).trans vB
      have lt0 := hzV _ mt0
      have lt1 := hzV _ mt1
      have lt2 := hzV _ mt2
      obtain ⟨x0, x1, x2, x3, x4, x5, x6⟩ := Blk.chart hBV
      have hY := hBV.lt
      generalize w3.heap.size = Y at hY x0 x1 x2 x3 x4 x5 x6 ⊢
      clear hV hBV hb3 hc3 hf3 hz3 hB3 P0 P1 P2 P3 P4 P5 P6 uA uB vA vB mt0 mt1 mt2
      apply cut_GreatestModulus
      · intro key
        go_region_held3 (fun w' => (w'.cell? ⟨Y, 0, none⟩ = some (.int .i64 C.dg) ∧ w'.cell? ⟨Y, 1, none⟩ = some (.int .i64 C.tn) ∧ w'.cell? ⟨Y, 2, none⟩ = some (.string C.nm) ∧ w'.cell? ⟨Y, 3, none⟩ = some (.slice (some ⟨g3, 0, none⟩) C.zs.length C.zs.length) ∧ w'.cell? ⟨Y, 4, none⟩ = some (.int .i64 C.wd) ∧ w'.cell? ⟨Y, 5, none⟩ = some (.int .i64 C.lf) ∧ w'.cell? ⟨Y, 6, none⟩ = some (.int .i64 C.rt)) ∧ w'.cell? ⟨w.heap.size + 1, 0, none⟩ = some (.int .i64 ud) ∧ w'.cell? ⟨w.heap.size + 1, 1, none⟩ = some (.int .i64 ut) ∧ w'.cell? ⟨w.heap.size + 1 + 1, 0, none⟩ = some (.int .i64 vd) ∧ w'.cell? ⟨w.heap.size + 1 + 1, 1, none⟩ = some (.int .i64 vt)) (simp [go_sem, *])
            (first | (go_at_call_of 18 (Value.agg #[Value.int IntKind.i64 ud, Value.int IntKind.i64 ut]); refine (toFigure_c _ _ _).mono ?_; rintro e wu ⟨rfl, hbu⟩; obtain ⟨hcu, hfu, hzu⟩ := bel hbu; (try simp only [World.size_drew, World.cell?_drew, World.frozen?_drew] at hcu hfu hzu); (try simp only [World.heap_drewN, World.cell?_drewN, World.frozen?_drewN] at hcu hfu hzu); (try have hlu : w.heap.size < wu.heap.size := by (have hq := hbu.size; (try simp at hq); omega)); (try have hmu : w.heap.size + 1 < wu.heap.size := by (have hq := hbu.size; (try simp at hq); omega)); (try have hnu : w.heap.size + 1 + 1 < wu.heap.size := by (have hq := hbu.size; (try simp at hq); omega)); (try have hpu : b < wu.heap.size := by (have hq := hbu.size; (try simp at hq); omega)); (try have hou : b' < wu.heap.size := by (have hq := hbu.size; (try simp at hq); omega)); (try have yyuY : Y < wu.heap.size := hzu _ (by first | assumption | (simp; done) | (simp; omega)))) | (go_at_call_of 18 (Value.agg #[Value.int IntKind.i64 vd, Value.int IntKind.i64 vt]); refine (toFigure_c _ _ _).mono ?_; rintro e wv ⟨rfl, hbv⟩; obtain ⟨hcv, hfv, hzv⟩ := bel hbv; (try simp only [World.size_drew, World.cell?_drew, World.frozen?_drew] at hcv hfv hzv); (try simp only [World.heap_drewN, World.cell?_drewN, World.frozen?_drewN] at hcv hfv hzv); (try have hlv : w.heap.size < wv.heap.size := by (have hq := hbv.size; (try simp at hq); omega)); (try have hmv : w.heap.size + 1 < wv.heap.size := by (have hq := hbv.size; (try simp at hq); omega)); (try have hnv : w.heap.size + 1 + 1 < wv.heap.size := by (have hq := hbv.size; (try simp at hq); omega)); (try have hpv : b < wv.heap.size := by (have hq := hbv.size; (try simp at hq); omega)); (try have hov : b' < wv.heap.size := by (have hq := hbv.size; (try simp at hq); omega)); (try have yyvY : Y < wv.heap.size := hzv _ (by first | assumption | (simp; done) | (simp; omega)))) | (go_at_call 34; refine (GreatestModulus_I _ _ _ _ _ _ _ _ hn hm _ (by repeat (with_reducible first | exact HJ.out | assumption | refine Ints.drew ?_ | refine Ints.drewN _ ?_ | refine Ints.alloc _ ?_ | refine Ints.step (by assumption) ?_))).mono ?_; rintro e wx ⟨rfl, hbx⟩; obtain ⟨hcx, hfx, hzx⟩ := bel hbx; (try simp only [World.size_drew, World.cell?_drew, World.frozen?_drew] at hcx hfx hzx); (try simp only [World.heap_drewN, World.cell?_drewN, World.frozen?_drewN] at hcx hfx hzx); (try have hlx : w.heap.size < wx.heap.size := by (have hq := hbx.size; (try simp at hq); omega)); (try have hmx : w.heap.size + 1 < wx.heap.size := by (have hq := hbx.size; (try simp at hq); omega)); (try have hnx : w.heap.size + 1 + 1 < wx.heap.size := by (have hq := hbx.size; (try simp at hq); omega)); (try have hpx : b < wx.heap.size := by (have hq := hbx.size; (try simp at hq); omega)); (try have hox : b' < wx.heap.size := by (have hq := hbx.size; (try simp at hq); omega)); (try have yyxY : Y < wx.heap.size := hzx _ (by first | assumption | (simp; done) | (simp; omega)))))
        · have hbU : Below V.heap.size V wx := by repeat (with_reducible first | exact Below.refl _ _ | assumption | refine Bel.alloc ?_ _ | refine Bel.step (by assumption) ?_ | refine Below.drew ?_ | refine Bel.drewN ?_ _ | refine Below.setCell ?_ (by first | exact Nat.le_refl _ | omega | (simp; done) | (simp; omega)) _)
          generalize wx = U at hbU ⊢
          revert hbU
          revert U
          exact key.out
      · intro U hbU
        obtain ⟨hcU, hfU, hzU⟩ := bel hbU
        have hbelU := Bel.step hbU hbelV
        have P0 := (hcU _ _ lt0).trans p0
        have Q0 := (hcU _ _ hY).trans x0
        have P1 := (hcU _ _ lt0).trans p1
        have Q1 := (hcU _ _ hY).trans x1
        have P2 := (hcU _ _ lt0).trans p2
        have Q2 := (hcU _ _ hY).trans x2
        have P3 := (hcU _ _ lt0).trans p3
        have Q3 := (hcU _ _ hY).trans x3
        have P4 := (hcU _ _ lt0).trans p4
        have Q4 := (hcU _ _ hY).trans x4
        have P5 := (hcU _ _ lt0).trans p5
        have Q5 := (hcU _ _ hY).trans x5
        have P6 := (hcU _ _ lt0).trans p6
        have Q6 := (hcU _ _ hY).trans x6
        have mt0 := hzU _ lt0
        have hY2 := hzU _ hY
        have HI2 := Lib.hid (Ints.step hbelU hA)
        have HJ2 := Lib.hid (Ints.step hbU HJ.out)
        clear hbU hcU hfU hzU HI HJ p0 x0 p1 x1 p2 x2 p3 x3 p4 x4 p5 x5 p6 x6 lt0 hY
        have HI := HI2
        have HJ := HJ2
        clear HI2 HJ2
        go_wp2
        go_region_held3 (fun w' => (w'.cell? ⟨w.heap.size, 0, none⟩ = some (.int .i64 C.dg) ∧ w'.cell? ⟨w.heap.size, 1, none⟩ = some (.int .i64 C.tn) ∧ w'.cell? ⟨w.heap.size, 2, none⟩ = some (.string C.nm) ∧ w'.cell? ⟨w.heap.size, 3, none⟩ = some (.slice A C.zs.length c) ∧ w'.cell? ⟨w.heap.size, 4, none⟩ = some (.int .i64 C.wd) ∧ w'.cell? ⟨w.heap.size, 5, none⟩ = some (.int .i64 C.lf) ∧ w'.cell? ⟨w.heap.size, 6, none⟩ = some (.int .i64 C.rt)) ∧ w'.cell? ⟨Y, 0, none⟩ = some (.int .i64 C.dg) ∧ w'.cell? ⟨Y, 1, none⟩ = some (.int .i64 C.tn) ∧ w'.cell? ⟨Y, 2, none⟩ = some (.string C.nm) ∧ w'.cell? ⟨Y, 3, none⟩ = some (.slice (some ⟨g3, 0, none⟩) C.zs.length C.zs.length) ∧ w'.cell? ⟨Y, 4, none⟩ = some (.int .i64 C.wd) ∧ w'.cell? ⟨Y, 5, none⟩ = some (.int .i64 C.lf) ∧ w'.cell? ⟨Y, 6, none⟩ = some (.int .i64 C.rt)) (simp [go_sem, *])
            (first | (go_at_call 17; refine (toChart_c _ _ _ hn _ (by repeat (with_reducible first | exact HI.out | assumption | refine Ints.drew ?_ | refine Ints.drewN _ ?_ | refine Ints.alloc _ ?_ | refine Ints.step (by assumption) ?_))).mono ?_; rintro e w1 ⟨g1, rfl, hg1, hB1, hb1⟩; obtain ⟨hc1, hf1, hz1⟩ := bel hb1; (try simp only [World.size_drew, World.cell?_drew, World.frozen?_drew] at hc1 hf1 hz1); (try simp only [World.heap_drewN, World.cell?_drewN, World.frozen?_drewN] at hc1 hf1 hz1); (try have hl1 : w.heap.size < w1.heap.size := by (have hq := hb1.size; (try simp at hq); omega)); (try have hm1 : w.heap.size + 1 < w1.heap.size := by (have hq := hb1.size; (try simp at hq); omega)); (try have hn1 : w.heap.size + 1 + 1 < w1.heap.size := by (have hq := hb1.size; (try simp at hq); omega)); (try have hp1 : b < w1.heap.size := by (have hq := hb1.size; (try simp at hq); omega)); (try have ho1 : b' < w1.heap.size := by (have hq := hb1.size; (try simp at hq); omega))) | (go_at_call 21; refine (eqChart_c _ _ _ _ _ hn _ (by repeat (with_reducible first | exact HJ.out | assumption | refine Ints.drew ?_ | refine Ints.drewN _ ?_ | refine Ints.alloc _ ?_ | refine Ints.step (by assumption) ?_)) (by repeat (with_reducible first | exact hB1.ints | refine Ints.drewN _ ?_ | refine Ints.drew ?_))).mono ?_; rintro e w1 ⟨rfl, hb1⟩; obtain ⟨hc1, hf1, hz1⟩ := bel hb1; (try simp only [World.size_drew, World.cell?_drew, World.frozen?_drew] at hc1 hf1 hz1); (try simp only [World.heap_drewN, World.cell?_drewN, World.frozen?_drewN] at hc1 hf1 hz1); (try have hl1 : w.heap.size < w1.heap.size := by (have hq := hb1.size; (try simp at hq); omega)); (try have hm1 : w.heap.size + 1 < w1.heap.size := by (have hq := hb1.size; (try simp at hq); omega)); (try have hn1 : w.heap.size + 1 + 1 < w1.heap.size := by (have hq := hb1.size; (try simp at hq); omega)); (try have hp1 : b < w1.heap.size := by (have hq := hb1.size; (try simp at hq); omega)); (try have ho1 : b' < w1.heap.size := by (have hq := hb1.size; (try simp at hq); omega))))
        all_goals
          go_wp2
          go_ret
          exact ⟨rfl, by repeat (with_reducible first | exact Below.refl _ _ | assumption | refine Bel.alloc ?_ _ | refine Bel.step (by assumption) ?_ | refine Below.drew ?_ | refine Bel.drewN ?_ _ | refine Below.setCell ?_ (by first | exact Nat.le_refl _ | omega | (simp; done) | (simp; omega)) _)⟩
  · have HZ := Lib.hid (sz2_no hz)
    go_enter Try.func9, Try.ntmps9
    go_wp2_with fail
    go_at_call 15; refine (szChart_c _ _ _ _ (by omega) (by omega) (by assumption) (by assumption) _).mono ?_; rintro e w1 ⟨rfl, hb1⟩; obtain ⟨hc1, hf1, hz1⟩ := bel hb1; (try simp only [World.size_drew, World.cell?_drew, World.frozen?_drew] at hc1 hf1 hz1); (try simp only [World.heap_drewN, World.cell?_drewN, World.frozen?_drewN] at hc1 hf1 hz1); (try have hl1 : w.heap.size < w1.heap.size := by (have hq := hb1.size; (try simp at hq); omega)); (try have hm1 : w.heap.size + 1 < w1.heap.size := by (have hq := hb1.size; (try simp at hq); omega)); (try have hn1 : w.heap.size + 1 + 1 < w1.heap.size := by (have hq := hb1.size; (try simp at hq); omega)); (try have hp1 : b < w1.heap.size := by (have hq := hb1.size; (try simp at hq); omega)); (try have ho1 : b' < w1.heap.size := by (have hq := hb1.size; (try simp at hq); omega))
    rw [HZ.out]
    go_wp2
    go_ret
    exact ⟨rfl, by repeat (with_reducible first | exact Below.refl _ _ | assumption | refine Bel.alloc ?_ _ | refine Bel.step (by assumption) ?_ | refine Below.drew ?_ | refine Bel.drewN ?_ _ | refine Below.setCell ?_ (by first | exact Nat.le_refl _ | omega | (simp; done) | (simp; omega)) _)⟩
end Go.Proofs.Yteldaadpcponfaa
