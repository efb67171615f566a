/- The statements on charts, walked. No conditions. -/
import Derived.Test.YtjhkpejejkkjlaaProg
import Derived.Test.YtjhkpejejkkjlaaBase
import Derived.Test.YtjhkpejejkkjlaaL01
import Derived.Test.YtjhkpejejkkjlaaCp
import Derived.Test.YtjhkpejejkkjlaaCh
import Derived.Test.YtjhkpejejkkjlaaL18
import Derived.WalkKit
import Derived.WalkSpells
import Derived.WalkLawsBesides
import Derived.Lib.Hide
import Derived.Deep.QuietTactic
import Derived.BigQuiet
import Derived.Deep.Draws
import Derived.Deep.RegionHeld3
namespace Go.Proofs.Ytjhkpejejkkjlaa
open Go.RowKit
set_option linter.unusedVariables false
theorem sz2_ok {C : Ch} (h : C.nm.size + C.zs.length ≤ 1048576) : sz2 1048576 C = 1048576 - C.nm.size - C.zs.length := by
  unfold sz2 szV; rw [if_neg (by omega), if_neg (by omega)]
theorem sz2_no {C : Ch} (h : ¬ C.nm.size + C.zs.length ≤ 1048576) : sz2 1048576 C = -1 := by
  unfold sz2 szV; split
  · rfl
  · rw [if_pos (by omega)]
theorem Blk.chart {w : World} {g : Nat} {t : TypeId} {C : Ch} {A : Option Addr} {c : Nat} (h : Blk w g t #[.int .i64 C.dg, .int .i64 C.tn, .string C.nm, .slice A C.zs.length c, .int .i64 C.wd, .int .i64 C.lf, .int .i64 C.rt]) : w.cell? ⟨g, 0, none⟩ = some (.int .i64 C.dg) ∧ w.cell? ⟨g, 1, none⟩ = some (.int .i64 C.tn) ∧ w.cell? ⟨g, 2, none⟩ = some (.string C.nm) ∧ w.cell? ⟨g, 3, none⟩ = some (.slice A C.zs.length c) ∧ w.cell? ⟨g, 4, none⟩ = some (.int .i64 C.wd) ∧ w.cell? ⟨g, 5, none⟩ = some (.int .i64 C.lf) ∧ w.cell? ⟨g, 6, none⟩ = some (.int .i64 C.rt) :=
  ⟨by rw [h.cell]; rfl, by rw [h.cell]; rfl, by rw [h.cell]; rfl, by rw [h.cell]; rfl, by rw [h.cell]; rfl, by rw [h.cell]; rfl, by rw [h.cell]; rfl⟩
theorem FnExactIsChart_w (w : World) (C : Ch) (A : Option Addr) (c : Nat) (hl : C.zs.length ≤ 9223372036854775807) (hA : Ints w A C.zs) (hs : C.nm.size ≤ 9223372036854775807) :
    Calls Try.prog 3 #[.agg #[.int .i64 C.dg, .int .i64 C.tn, .string C.nm, .slice A C.zs.length c, .int .i64 C.wd, .int .i64 C.lf, .int .i64 C.rt]] w fun e w' => e = .returned (.bool true) ∧ Below w.heap.size w w' := by
  by_cases hz : C.nm.size + C.zs.length ≤ 1048576
  · have HZ := Lib.hid (sz2_ok hz)
    have hn : C.zs.length ≤ 1048576 := by omega
    have hm : C.nm.size ≤ 1048576 := by omega
    have hn0 : (0 : Int) ≤ 1048576 - C.nm.size - C.zs.length := by omega
    clear hz
    go_enter Try.func3, Try.ntmps3
    go_wp2_with fail
    go_at_call 15; refine (szChart_c _ _ _ _ (by omega) (by omega) (by assumption) (by assumption) _).mono ?_; rintro e w1 ⟨rfl, hb1⟩; obtain ⟨hc1, hf1, hz1⟩ := bel hb1; (try simp only [World.size_drew, World.cell?_drew, World.frozen?_drew, World.heap_drewN, World.cell?_drewN, World.frozen?_drewN] at hc1 hf1 hz1); (try have hl1 : w.heap.size < w1.heap.size := by (have hq := hb1.size; (try simp at hq); omega)); (try have hm1 : w.heap.size + 1 < w1.heap.size := by (have hq := hb1.size; (try simp at hq); omega)); (try have hn1 : w.heap.size + 1 + 1 < w1.heap.size := by (have hq := hb1.size; (try simp at hq); omega)); (try have hp1 : b < w1.heap.size := by (have hq := hb1.size; (try simp at hq); omega)); (try have ho1 : b' < w1.heap.size := by (have hq := hb1.size; (try simp at hq); omega))
    rw [HZ.out]
    have hbel1 : Below w.heap.size w w1 := by repeat (with_reducible first | exact Below.refl _ _ | assumption | refine Bel.alloc ?_ _ | refine Bel.step (by assumption) ?_ | refine Below.drew ?_ | refine Bel.drewN ?_ _ | refine Below.setCell ?_ (by first | exact Nat.le_refl _ | omega | (simp; done) | (simp; omega)) _)
    go_wp2_with fail
    go_at_call 17; refine (toChart_c _ _ _ hn _ (Ints.step hbel1 hA)).mono ?_; rintro e w2 ⟨g2, rfl, hg2, hB2, hb2⟩; obtain ⟨hc2, hf2, hz2⟩ := bel hb2; (try simp only [World.size_drew, World.cell?_drew, World.frozen?_drew, World.heap_drewN, World.cell?_drewN, World.frozen?_drewN] at hc2 hf2 hz2); (try have hl2 : w.heap.size < w2.heap.size := by (have hq := hb2.size; (try simp at hq); omega)); (try have hm2 : w.heap.size + 1 < w2.heap.size := by (have hq := hb2.size; (try simp at hq); omega)); (try have hn2 : w.heap.size + 1 + 1 < w2.heap.size := by (have hq := hb2.size; (try simp at hq); omega)); (try have hp2 : b < w2.heap.size := by (have hq := hb2.size; (try simp at hq); omega)); (try have ho2 : b' < w2.heap.size := by (have hq := hb2.size; (try simp at hq); omega))
    go_wp2_with fail
    go_at_call 16; refine (IsChart_S _ _ _ hn hm _ hB2.ints).mono ?_; rintro e w3 ⟨rfl, hb3⟩; obtain ⟨hc3, hf3, hz3⟩ := bel hb3; (try simp only [World.size_drew, World.cell?_drew, World.frozen?_drew, World.heap_drewN, World.cell?_drewN, World.frozen?_drewN] at hc3 hf3 hz3); (try have hl3 : w.heap.size < w3.heap.size := by (have hq := hb3.size; (try simp at hq); omega)); (try have hm3 : w.heap.size + 1 < w3.heap.size := by (have hq := hb3.size; (try simp at hq); omega)); (try have hn3 : w.heap.size + 1 + 1 < w3.heap.size := by (have hq := hb3.size; (try simp at hq); omega)); (try have hp3 : b < w3.heap.size := by (have hq := hb3.size; (try simp at hq); omega)); (try have ho3 : b' < w3.heap.size := by (have hq := hb3.size; (try simp at hq); omega))
    have hbel3 : Below w.heap.size w w3 := by repeat (with_reducible first | exact Below.refl _ _ | assumption | refine Bel.alloc ?_ _ | refine Bel.step (by assumption) ?_ | refine Below.drew ?_ | refine Bel.drewN ?_ _ | refine Below.setCell ?_ (by first | exact Nat.le_refl _ | omega | (simp; done) | (simp; omega)) _)
    go_wp2_with fail
    go_at_call 17; refine (toChart_c _ _ _ hn _ (Ints.step hbel3 hA)).mono ?_; rintro e w4 ⟨g4, rfl, hg4, hB4, hb4⟩; obtain ⟨hc4, hf4, hz4⟩ := bel hb4; (try simp only [World.size_drew, World.cell?_drew, World.frozen?_drew, World.heap_drewN, World.cell?_drewN, World.frozen?_drewN] at hc4 hf4 hz4); (try have hl4 : w.heap.size < w4.heap.size := by (have hq := hb4.size; (try simp at hq); omega)); (try have hm4 : w.heap.size + 1 < w4.heap.size := by (have hq := hb4.size; (try simp at hq); omega)); (try have hn4 : w.heap.size + 1 + 1 < w4.heap.size := by (have hq := hb4.size; (try simp at hq); omega)); (try have hp4 : b < w4.heap.size := by (have hq := hb4.size; (try simp at hq); omega)); (try have ho4 : b' < w4.heap.size := by (have hq := hb4.size; (try simp at hq); omega))
    have hP5 := Blk.step hb4 (Blk.step hb3 (Blk.step hb2 (Blk.step hb1 (Blk.new w 28 #[.int .i64 C.dg, .int .i64 C.tn, .string C.nm, .slice A C.zs.length c, .int .i64 C.wd, .int .i64 C.lf, .int .i64 C.rt]))))
    have hbel4 : Below w.heap.size w w4 := by repeat (with_reducible first | exact Below.refl _ _ | assumption | refine Bel.alloc ?_ _ | refine Bel.step (by assumption) ?_ | refine Below.drew ?_ | refine Bel.drewN ?_ _ | refine Below.setCell ?_ (by first | exact Nat.le_refl _ | omega | (simp; done) | (simp; omega)) _)
    have lt4 := hP5.lt
    go_wp2_with fail
    go_at_call 18; refine (IsChart_I _ _ _ hn hm _ (Ints.alloc _ hB4.ints)).mono ?_; rintro e w5 ⟨rfl, hb5⟩; obtain ⟨hc5, hf5, hz5⟩ := bel hb5; (try simp only [World.size_drew, World.cell?_drew, World.frozen?_drew, World.heap_drewN, World.cell?_drewN, World.frozen?_drewN] at hc5 hf5 hz5); (try have hl5 : w.heap.size < w5.heap.size := by (have hq := hb5.size; (try simp at hq); omega)); (try have hm5 : w.heap.size + 1 < w5.heap.size := by (have hq := hb5.size; (try simp at hq); omega)); (try have hn5 : w.heap.size + 1 + 1 < w5.heap.size := by (have hq := hb5.size; (try simp at hq); omega)); (try have hp5 : b < w5.heap.size := by (have hq := hb5.size; (try simp at hq); omega)); (try have ho5 : b' < w5.heap.size := by (have hq := hb5.size; (try simp at hq); omega))
    obtain ⟨p0, p1, p2, p3, p4, p5, p6⟩ := Blk.chart (Blk.step hb5 (Blk.alloc _ hP5))
    have hX5 := Blk.step hb5 (Blk.new w4 35 #[.int .i64 C.dg, .int .i64 C.tn, .string C.nm, .slice (some ⟨g4, 0, none⟩) C.zs.length C.zs.length, .int .i64 C.wd, .int .i64 C.lf, .int .i64 C.rt])
    obtain ⟨x0, x1, x2, x3, x4, x5, x6⟩ := Blk.chart hX5
    have xlt := hX5.lt
    have HJ := Lib.hid (Ints.step hb5 (Ints.alloc _ hB4.ints))
    have hbel5 : Below w.heap.size w w5 := by repeat (with_reducible first | exact Below.refl _ _ | assumption | refine Bel.alloc ?_ _ | refine Bel.step (by assumption) ?_ | refine Below.drew ?_ | refine Bel.drewN ?_ _ | refine Below.setCell ?_ (by first | exact Nat.le_refl _ | omega | (simp; done) | (simp; omega)) _)
    have HI := Lib.hid (Ints.step hbel5 hA)
    have hs5 : w.heap.size < w5.heap.size := by omega
    clear hb1 hc1 hf1 hz1 hl1 hb2 hc2 hf2 hz2 hb3 hc3 hf3 hz3 hb4 hc4 hf4 hz4 hb5 hc5 hf5 hz5 hP5 hB2 hB4 hX5
    go_wp2
    go_region_held3 (fun w' => (w'.cell? ⟨w.heap.size, 0, none⟩ = some (.int .i64 C.dg) ∧ w'.cell? ⟨w.heap.size, 1, none⟩ = some (.int .i64 C.tn) ∧ w'.cell? ⟨w.heap.size, 2, none⟩ = some (.string C.nm) ∧ w'.cell? ⟨w.heap.size, 3, none⟩ = some (.slice A C.zs.length c) ∧ w'.cell? ⟨w.heap.size, 4, none⟩ = some (.int .i64 C.wd) ∧ w'.cell? ⟨w.heap.size, 5, none⟩ = some (.int .i64 C.lf) ∧ w'.cell? ⟨w.heap.size, 6, none⟩ = some (.int .i64 C.rt)) ∧ w'.cell? ⟨w4.heap.size, 0, none⟩ = some (.int .i64 C.dg) ∧ w'.cell? ⟨w4.heap.size, 1, none⟩ = some (.int .i64 C.tn) ∧ w'.cell? ⟨w4.heap.size, 2, none⟩ = some (.string C.nm) ∧ w'.cell? ⟨w4.heap.size, 3, none⟩ = some (.slice (some ⟨g4, 0, none⟩) C.zs.length C.zs.length) ∧ w'.cell? ⟨w4.heap.size, 4, none⟩ = some (.int .i64 C.wd) ∧ w'.cell? ⟨w4.heap.size, 5, none⟩ = some (.int .i64 C.lf) ∧ w'.cell? ⟨w4.heap.size, 6, none⟩ = some (.int .i64 C.rt)) (simp [go_sem, *])
        (first | (go_at_call 17; refine (toChart_c _ _ _ hn _ (by repeat (with_reducible first | exact HI.out | assumption | refine Ints.drew ?_ | refine Ints.drewN _ ?_ | refine Ints.alloc _ ?_ | refine Ints.step (by assumption) ?_))).mono ?_; rintro e w1 ⟨g1, rfl, hg1, hB1, hb1⟩; obtain ⟨hc1, hf1, hz1⟩ := bel hb1; (try simp only [World.size_drew, World.cell?_drew, World.frozen?_drew, World.heap_drewN, World.cell?_drewN, World.frozen?_drewN] at hc1 hf1 hz1); (try have hl1 : w.heap.size < w1.heap.size := by (have hq := hb1.size; (try simp at hq); omega)); (try have hm1 : w.heap.size + 1 < w1.heap.size := by (have hq := hb1.size; (try simp at hq); omega)); (try have hn1 : w.heap.size + 1 + 1 < w1.heap.size := by (have hq := hb1.size; (try simp at hq); omega)); (try have hp1 : b < w1.heap.size := by (have hq := hb1.size; (try simp at hq); omega)); (try have ho1 : b' < w1.heap.size := by (have hq := hb1.size; (try simp at hq); omega))) | (go_at_call 19; refine (eqChart_c _ _ _ _ _ hn _ (by repeat (with_reducible first | exact HJ.out | assumption | refine Ints.drew ?_ | refine Ints.drewN _ ?_ | refine Ints.alloc _ ?_ | refine Ints.step (by assumption) ?_)) (by repeat (with_reducible first | exact hB1.ints | refine Ints.drewN _ ?_ | refine Ints.drew ?_))).mono ?_; rintro e w1 ⟨rfl, hb1⟩; obtain ⟨hc1, hf1, hz1⟩ := bel hb1; (try simp only [World.size_drew, World.cell?_drew, World.frozen?_drew, World.heap_drewN, World.cell?_drewN, World.frozen?_drewN] at hc1 hf1 hz1); (try have hl1 : w.heap.size < w1.heap.size := by (have hq := hb1.size; (try simp at hq); omega)); (try have hm1 : w.heap.size + 1 < w1.heap.size := by (have hq := hb1.size; (try simp at hq); omega)); (try have hn1 : w.heap.size + 1 + 1 < w1.heap.size := by (have hq := hb1.size; (try simp at hq); omega)); (try have hp1 : b < w1.heap.size := by (have hq := hb1.size; (try simp at hq); omega)); (try have ho1 : b' < w1.heap.size := by (have hq := hb1.size; (try simp at hq); omega))))
    all_goals
      go_wp2
      go_ret
      exact ⟨rfl, by repeat (with_reducible first | exact Below.refl _ _ | assumption | refine Bel.alloc ?_ _ | refine Bel.step (by assumption) ?_ | refine Below.drew ?_ | refine Bel.drewN ?_ _ | refine Below.setCell ?_ (by first | exact Nat.le_refl _ | omega | (simp; done) | (simp; omega)) _)⟩
  · have HZ := Lib.hid (sz2_no hz)
    go_enter Try.func3, Try.ntmps3
    go_wp2_with fail
    go_at_call 15; refine (szChart_c _ _ _ _ (by omega) (by omega) (by assumption) (by assumption) _).mono ?_; rintro e w1 ⟨rfl, hb1⟩; obtain ⟨hc1, hf1, hz1⟩ := bel hb1; (try simp only [World.size_drew, World.cell?_drew, World.frozen?_drew, World.heap_drewN, World.cell?_drewN, World.frozen?_drewN] at hc1 hf1 hz1); (try have hl1 : w.heap.size < w1.heap.size := by (have hq := hb1.size; (try simp at hq); omega)); (try have hm1 : w.heap.size + 1 < w1.heap.size := by (have hq := hb1.size; (try simp at hq); omega)); (try have hn1 : w.heap.size + 1 + 1 < w1.heap.size := by (have hq := hb1.size; (try simp at hq); omega)); (try have hp1 : b < w1.heap.size := by (have hq := hb1.size; (try simp at hq); omega)); (try have ho1 : b' < w1.heap.size := by (have hq := hb1.size; (try simp at hq); omega))
    rw [HZ.out]
    go_wp2
    go_ret
    exact ⟨rfl, by repeat (with_reducible first | exact Below.refl _ _ | assumption | refine Bel.alloc ?_ _ | refine Bel.step (by assumption) ?_ | refine Below.drew ?_ | refine Bel.drewN ?_ _ | refine Below.setCell ?_ (by first | exact Nat.le_refl _ | omega | (simp; done) | (simp; omega)) _)⟩
end Go.Proofs.Ytjhkpejejkkjlaa
