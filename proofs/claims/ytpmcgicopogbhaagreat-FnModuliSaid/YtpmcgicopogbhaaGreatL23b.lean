/- Chapters 18, 23 and 26: formulas and charts in new memory. Conditions: as stated at each contract. -/
import Derived.Test.YtpmcgicopogbhaaGreatProg
import Derived.Test.YtpmcgicopogbhaaGreatBase
import Derived.Test.YtpmcgicopogbhaaGreatZy
import Derived.Test.YtpmcgicopogbhaaGreatL01
import Derived.Test.YtpmcgicopogbhaaGreatCp
import Derived.Test.YtpmcgicopogbhaaGreatCm
import Derived.Test.YtpmcgicopogbhaaGreatL18
import Derived.Test.YtpmcgicopogbhaaGreatL23
import Derived.WalkKit
import Derived.WalkSpells
import Derived.WalkLawsBesides
import Derived.Lib.Hide
import Derived.Deep.QuietTactic
import Derived.BigQuiet
import Derived.Deep.Draws
import Derived.Deep.RegionHeld3
namespace Go.Proofs.YtpmcgicopogbhaaGreat
set_option linter.unusedSimpArgs false
open Go.RowKit
set_option linter.unusedVariables false
theorem Own.set_ {w : World} {B : Nat} {T : TypeId} {v : Value} {zs : List Int} (h : Own w B T v zs) {g o : Nat} (hg : g < B) (u : Value) : Own (w.setCell ⟨g, o, none⟩ u) B T v zs := Own.kept h (grown_set (World.grownBy.refl w _) u) (own_ne_hi h hg)
theorem Blk.form {w : World} {g : Nat} {t : TypeId} {C : Ch} {A : Option Addr} {c : Nat} (h : Blk w g t #[.int .i64 C.dg, .int .i64 C.tn, .string C.nm, .slice A C.zs.length c]) : w.cell? ⟨g, 0, none⟩ = some (.int .i64 C.dg) ∧ w.cell? ⟨g, 1, none⟩ = some (.int .i64 C.tn) ∧ w.cell? ⟨g, 2, none⟩ = some (.string C.nm) ∧ w.cell? ⟨g, 3, none⟩ = some (.slice A C.zs.length c) :=
  ⟨by rw [h.cell]; rfl, by rw [h.cell]; rfl, by rw [h.cell]; rfl, by rw [h.cell]; rfl⟩
theorem Blk.chart {w : World} {g : Nat} {t : TypeId} {C : Ch} {A : Option Addr} {c : Nat} (h : Blk w g t #[.int .i64 C.dg, .int .i64 C.tn, .string C.nm, .slice A C.zs.length c, .int .i64 C.wd, .int .i64 C.lf, .int .i64 C.rt]) : w.cell? ⟨g, 0, none⟩ = some (.int .i64 C.dg) ∧ w.cell? ⟨g, 1, none⟩ = some (.int .i64 C.tn) ∧ w.cell? ⟨g, 2, none⟩ = some (.string C.nm) ∧ w.cell? ⟨g, 3, none⟩ = some (.slice A C.zs.length c) ∧ w.cell? ⟨g, 4, none⟩ = some (.int .i64 C.wd) ∧ w.cell? ⟨g, 5, none⟩ = some (.int .i64 C.lf) ∧ w.cell? ⟨g, 6, none⟩ = some (.int .i64 C.rt) :=
  ⟨by rw [h.cell]; rfl, by rw [h.cell]; rfl, by rw [h.cell]; rfl, by rw [h.cell]; rfl, by rw [h.cell]; rfl, by rw [h.cell]; rfl, by rw [h.cell]; rfl⟩
theorem l18Own_c (C : Ch) (A : Option Addr) (c : Nat) (h0 : 0 < C.zs.length) (hn : C.zs.length ≤ 1048576) (w : World) (hA : Ints w A C.zs) :
    Calls Tryz.prog 50 #[.agg #[.int .i64 C.dg, .int .i64 C.tn, .string C.nm, .slice A C.zs.length c]] w fun e w' => ∃ A' c', e = .returned (.agg #[.int .i64 C.dg, .int .i64 C.tn, .string C.nm, .slice A' C.zs.length c']) ∧ Own w' w.heap.size 2 (.slice A' C.zs.length c') C.zs ∧ Below w.heap.size w w' := by
  have HI := Lib.hid hA
  go_enter Tryz.func50, Tryz.ntmps50
  go_wp2
  go_region_held3 (fun w' => w'.cell? ⟨w.heap.size, 0, none⟩ = some (.int .i64 C.dg) ∧ w'.cell? ⟨w.heap.size, 1, none⟩ = some (.int .i64 C.tn) ∧ w'.cell? ⟨w.heap.size, 2, none⟩ = some (.string C.nm) ∧ w'.cell? ⟨w.heap.size, 3, none⟩ = some (.slice A C.zs.length c)) (simp [go_sem, *])
      (first | (go_at_call 101; refine (l01Own_c _ _ _ h0 hn _ (by repeat (with_reducible first | exact HI.out | assumption | refine Ints.drew ?_ | refine Ints.drewN _ ?_ | refine Ints.alloc _ ?_ | refine Ints.step (by assumption) ?_))).mono ?_; rintro e w1 ⟨v1, rfl, hO1, hb1⟩; obtain ⟨A1, kk1, rfl, hcc1, hcm1, hI1, hF1⟩ := hO1.form; clear hF1; obtain ⟨hc1, hf1, hz1⟩ := bel hb1; (try have hl1 : w.heap.size < w1.heap.size := zl hb1); (try have hm1 : w.heap.size + 1 < w1.heap.size := zl hb1); (try have hn1 : w.heap.size + 1 + 1 < w1.heap.size := zl hb1); (try have hp1 : b < w1.heap.size := zl hb1); (try have ho1 : b' < w1.heap.size := by (have hq := hb1.size; (try simp at hq); omega))))
  all_goals
    have hO := Own.ge_mono hO1 (show w.heap.size + 2 ≤ _ by simp)
    go_wp2
    refine bodyPost_ret (v := .agg #[.int .i64 C.dg, .int .i64 C.tn, .string C.nm, .slice A1 C.zs.length kk1]) (by simp [results, Tryz.results50, go_sem, *]) rfl ⟨A1, kk1, rfl, (Own.ge_mono (B := w.heap.size + 2) (by repeat (with_reducible first | exact hO | refine Own.set_ ?_ (by first | omega | (simp; omega)) _ | refine Own.alloc _ ?_ | refine Own.step (by assumption) ?_ | refine Own.drew ?_ | refine Own.drewN _ ?_)) (by omega)), by repeat (with_reducible first | exact Below.refl _ _ | assumption | refine Bel.alloc ?_ _ | refine Bel.step (by assumption) ?_ | refine Below.drew ?_ | refine Bel.drewN ?_ _ | refine Below.setCell ?_ (by first | exact Nat.le_refl _ | omega | (simp; done) | (simp; omega)) _)⟩
theorem ownFormula_c (C : Ch) (A : Option Addr) (c : Nat) (h0 : 0 < C.zs.length) (hn : C.zs.length ≤ 1048576) (w : World) (hA : Ints w A C.zs) :
    Calls Tryz.prog 133 #[.agg #[.int .i64 C.dg, .int .i64 C.tn, .string C.nm, .slice A C.zs.length c]] w fun e w' => ∃ A' c', e = .returned (.agg #[.int .i64 C.dg, .int .i64 C.tn, .string C.nm, .slice A' C.zs.length c']) ∧ Own w' w.heap.size 2 (.slice A' C.zs.length c') C.zs ∧ Below w.heap.size w w' := by
  have HI := Lib.hid hA
  go_enter Tryz.func133, Tryz.ntmps133
  go_wp2_with fail
  go_at_call 152; refine (Clone_c _ _ _ h0 hn _ (by repeat (with_reducible first | exact HI.out | assumption | refine Ints.drew ?_ | refine Ints.drewN _ ?_ | refine Ints.alloc _ ?_ | refine Ints.step (by assumption) ?_))).mono ?_; rintro e w1 ⟨v1, rfl, hO1, hb1⟩; obtain ⟨A1, kk1, rfl, hcc1, hcm1, hI1, hF1⟩ := hO1.form; clear hF1; obtain ⟨hc1, hf1, hz1⟩ := bel hb1; (try have hl1 : w.heap.size < w1.heap.size := zl hb1); (try have hm1 : w.heap.size + 1 < w1.heap.size := zl hb1); (try have hn1 : w.heap.size + 1 + 1 < w1.heap.size := zl hb1); (try have hp1 : b < w1.heap.size := zl hb1); (try have ho1 : b' < w1.heap.size := by (have hq := hb1.size; (try simp at hq); omega))
  obtain ⟨q0, q1, q2, q3⟩ := Blk.form (Blk.step hb1 (Blk.alloc _ (Blk.new _ _ _)))
  have hO := Own.ge_mono hO1 (show w.heap.size + 2 ≤ _ by simp)
  go_wp2
  refine bodyPost_ret (v := .agg #[.int .i64 C.dg, .int .i64 C.tn, .string C.nm, .slice A1 C.zs.length kk1]) (by simp [results, Tryz.results133, go_sem, *]) rfl ⟨A1, kk1, rfl, (Own.ge_mono (B := w.heap.size + 2) (by repeat (with_reducible first | exact hO | refine Own.set_ ?_ (by first | omega | (simp; omega)) _ | refine Own.alloc _ ?_ | refine Own.step (by assumption) ?_ | refine Own.drew ?_ | refine Own.drewN _ ?_)) (by omega)), by repeat (with_reducible first | exact Below.refl _ _ | assumption | refine Bel.alloc ?_ _ | refine Bel.step (by assumption) ?_ | refine Below.drew ?_ | refine Bel.drewN ?_ _ | refine Below.setCell ?_ (by first | exact Nat.le_refl _ | omega | (simp; done) | (simp; omega)) _)⟩
theorem ownChart_c (C : Ch) (A : Option Addr) (c : Nat) (h0 : 0 < C.zs.length) (hn : C.zs.length ≤ 1048576) (w : World) (hA : Ints w A C.zs) :
    Calls Tryz.prog 97 #[.agg #[.int .i64 C.dg, .int .i64 C.tn, .string C.nm, .slice A C.zs.length c, .int .i64 C.wd, .int .i64 C.lf, .int .i64 C.rt]] w fun e w' => ∃ A' c', e = .returned (.agg #[.int .i64 C.dg, .int .i64 C.tn, .string C.nm, .slice A' C.zs.length c', .int .i64 C.wd, .int .i64 C.lf, .int .i64 C.rt]) ∧ Own w' w.heap.size 2 (.slice A' C.zs.length c') C.zs ∧ Below w.heap.size w w' := by
  have HI := Lib.hid hA
  go_enter Tryz.func97, Tryz.ntmps97
  go_wp2_with fail
  go_at_call 133; refine (ownFormula_c _ _ _ h0 hn _ (by repeat (with_reducible first | exact HI.out | assumption | refine Ints.drew ?_ | refine Ints.drewN _ ?_ | refine Ints.alloc _ ?_ | refine Ints.step (by assumption) ?_))).mono ?_; rintro e w1 ⟨A1, kk1, rfl, hO1, hb1⟩; obtain ⟨hc1, hf1, hz1⟩ := bel hb1; (try simp only [World.size_drew, World.cell?_drew, World.frozen?_drew, World.heap_drewN, World.cell?_drewN, World.frozen?_drewN] at hc1 hf1 hz1); (try have hl1 : w.heap.size < w1.heap.size := zl hb1); (try have hm1 : w.heap.size + 1 < w1.heap.size := zl hb1); (try have hn1 : w.heap.size + 1 + 1 < w1.heap.size := zl hb1); (try have hp1 : b < w1.heap.size := zl hb1); (try have ho1 : b' < w1.heap.size := by (have hq := hb1.size; (try simp at hq); omega))
  obtain ⟨q0, q1, q2, q3, q4, q5, q6⟩ := Blk.chart (Blk.step hb1 (Blk.alloc _ (Blk.new _ _ _)))
  have hO := Own.ge_mono hO1 (show w.heap.size + 2 ≤ _ by simp)
  go_wp2
  refine bodyPost_ret (v := .agg #[.int .i64 C.dg, .int .i64 C.tn, .string C.nm, .slice A1 C.zs.length kk1, .int .i64 C.wd, .int .i64 C.lf, .int .i64 C.rt]) (by simp [results, Tryz.results97, go_sem, *]) rfl ⟨A1, kk1, rfl, (Own.ge_mono (B := w.heap.size + 2) (by repeat (with_reducible first | exact hO | refine Own.set_ ?_ (by first | omega | (simp; omega)) _ | refine Own.alloc _ ?_ | refine Own.step (by assumption) ?_ | refine Own.drew ?_ | refine Own.drewN _ ?_)) (by omega)), by repeat (with_reducible first | exact Below.refl _ _ | assumption | refine Bel.alloc ?_ _ | refine Bel.step (by assumption) ?_ | refine Below.drew ?_ | refine Bel.drewN ?_ _ | refine Below.setCell ?_ (by first | exact Nat.le_refl _ | omega | (simp; done) | (simp; omega)) _)⟩
theorem withModuli_c (C : Ch) (A : Option Addr) (c : Nat) (x y : Int) (h0 : 0 < C.zs.length) (hn : C.zs.length ≤ 1048576) (w : World) (hA : Ints w A C.zs) :
    Calls Tryz.prog 83 #[.agg #[.int .i64 C.dg, .int .i64 C.tn, .string C.nm, .slice A C.zs.length c, .int .i64 C.wd, .int .i64 C.lf, .int .i64 C.rt], .int .i64 x, .int .i64 y] w fun e w' => ∃ A' c', e = .returned (.agg #[.int .i64 ({ C with lf := x, rt := y } : Ch).dg, .int .i64 ({ C with lf := x, rt := y } : Ch).tn, .string ({ C with lf := x, rt := y } : Ch).nm, .slice A' ({ C with lf := x, rt := y } : Ch).zs.length c', .int .i64 ({ C with lf := x, rt := y } : Ch).wd, .int .i64 ({ C with lf := x, rt := y } : Ch).lf, .int .i64 ({ C with lf := x, rt := y } : Ch).rt]) ∧ Own w' w.heap.size 2 (.slice A' C.zs.length c') C.zs ∧ Below w.heap.size w w' := by
  have HI := Lib.hid hA
  go_enter Tryz.func83, Tryz.ntmps83
  go_wp2_with fail
  go_at_call 97; refine (ownChart_c _ _ _ h0 hn _ (by repeat (with_reducible first | exact HI.out | assumption | refine Ints.drew ?_ | refine Ints.drewN _ ?_ | refine Ints.alloc _ ?_ | refine Ints.step (by assumption) ?_))).mono ?_; rintro e w1 ⟨A1, kk1, rfl, hO1, hb1⟩; obtain ⟨hc1, hf1, hz1⟩ := bel hb1; (try simp only [World.size_drew, World.cell?_drew, World.frozen?_drew, World.heap_drewN, World.cell?_drewN, World.frozen?_drewN] at hc1 hf1 hz1); (try have hl1 : w.heap.size < w1.heap.size := zl hb1); (try have hm1 : w.heap.size + 1 < w1.heap.size := zl hb1); (try have hn1 : w.heap.size + 1 + 1 < w1.heap.size := zl hb1); (try have hp1 : b < w1.heap.size := zl hb1); (try have ho1 : b' < w1.heap.size := by (have hq := hb1.size; (try simp at hq); omega))
  have hO := Own.ge_mono hO1 (show w.heap.size + 2 ≤ _ by simp)
  go_wp2
  refine bodyPost_ret (v := .agg #[.int .i64 ({ C with lf := x, rt := y } : Ch).dg, .int .i64 ({ C with lf := x, rt := y } : Ch).tn, .string ({ C with lf := x, rt := y } : Ch).nm, .slice A1 ({ C with lf := x, rt := y } : Ch).zs.length kk1, .int .i64 ({ C with lf := x, rt := y } : Ch).wd, .int .i64 ({ C with lf := x, rt := y } : Ch).lf, .int .i64 ({ C with lf := x, rt := y } : Ch).rt]) (by simp [results, Tryz.results83, go_sem, *]) rfl ⟨A1, kk1, rfl, (Own.ge_mono (B := w.heap.size + 2) (by repeat (with_reducible first | exact hO | refine Own.set_ ?_ (by first | omega | (simp; omega)) _ | refine Own.alloc _ ?_ | refine Own.step (by assumption) ?_ | refine Own.drew ?_ | refine Own.drewN _ ?_)) (by omega)), by repeat (with_reducible first | exact Below.refl _ _ | assumption | refine Bel.alloc ?_ _ | refine Bel.step (by assumption) ?_ | refine Below.drew ?_ | refine Bel.drewN ?_ _ | refine Below.setCell ?_ (by first | exact Nat.le_refl _ | omega | (simp; done) | (simp; omega)) _)⟩
/-- The chart of no thing. -/
def ZC : Ch := ⟨0, 0, ⟨#[]⟩, [], 0, 0, 0⟩
def flC (C : Ch) : Int := if okCh C then 0 else 1
def flV (C : Ch) : Ch := if okCh C then { C with lf := C.rt, rt := C.lf } else ZC
end Go.Proofs.YtpmcgicopogbhaaGreat
