/- Chapters 18, 23 and 26: formulas and charts in new memory. Conditions: as stated at each contract. -/
import Derived.Test.YtpmcgicopogbhaaProg
import Derived.Test.YtpmcgicopogbhaaBase
import Derived.Test.YtpmcgicopogbhaaL01
import Derived.Test.YtpmcgicopogbhaaCp
import Derived.Test.YtpmcgicopogbhaaCm
import Derived.Test.YtpmcgicopogbhaaL18
import Derived.Test.YtpmcgicopogbhaaL23
import Derived.WalkKit
import Derived.WalkSpells
import Derived.WalkLawsBesides
import Derived.Lib.Hide
import Derived.Deep.QuietTactic
import Derived.BigQuiet
import Derived.Deep.Draws
import Derived.Deep.RegionHeld3
namespace Go.Proofs.Ytpmcgicopogbhaa
open Go.RowKit
set_option linter.unusedVariables false
theorem Own.set_ {w : World} {B : Nat} {T : TypeId} {v : Value} {zs : List Int} (h : Own w B T v zs) {g o : Nat} (hg : g < B) (u : Value) : Own (w.setCell ⟨g, o, none⟩ u) B T v zs := Own.kept h (grown_set (World.grownBy.refl w _) u) (own_ne_hi h hg)
theorem Blk.form {w : World} {g : Nat} {t : TypeId} {C : Ch} {A : Option Addr} {c : Nat} (h : Blk w g t #[.int .i64 C.dg, .int .i64 C.tn, .string C.nm, .slice A C.zs.length c]) : w.cell? ⟨g, 0, none⟩ = some (.int .i64 C.dg) ∧ w.cell? ⟨g, 1, none⟩ = some (.int .i64 C.tn) ∧ w.cell? ⟨g, 2, none⟩ = some (.string C.nm) ∧ w.cell? ⟨g, 3, none⟩ = some (.slice A C.zs.length c) :=
  ⟨by rw [h.cell]; rfl, by rw [h.cell]; rfl, by rw [h.cell]; rfl, by rw [h.cell]; rfl⟩
theorem Blk.chart {w : World} {g : Nat} {t : TypeId} {C : Ch} {A : Option Addr} {c : Nat} (h : Blk w g t #[.int .i64 C.dg, .int .i64 C.tn, .string C.nm, .slice A C.zs.length c, .int .i64 C.wd, .int .i64 C.lf, .int .i64 C.rt]) : w.cell? ⟨g, 0, none⟩ = some (.int .i64 C.dg) ∧ w.cell? ⟨g, 1, none⟩ = some (.int .i64 C.tn) ∧ w.cell? ⟨g, 2, none⟩ = some (.string C.nm) ∧ w.cell? ⟨g, 3, none⟩ = some (.slice A C.zs.length c) ∧ w.cell? ⟨g, 4, none⟩ = some (.int .i64 C.wd) ∧ w.cell? ⟨g, 5, none⟩ = some (.int .i64 C.lf) ∧ w.cell? ⟨g, 6, none⟩ = some (.int .i64 C.rt) :=
  ⟨by rw [h.cell]; rfl, by rw [h.cell]; rfl, by rw [h.cell]; rfl, by rw [h.cell]; rfl, by rw [h.cell]; rfl, by rw [h.cell]; rfl, by rw [h.cell]; rfl⟩
theorem l18Own_c (C : Ch) (A : Option Addr) (c : Nat) (h0 : 0 < C.zs.length) (hn : C.zs.length ≤ 1048576) (w : World) (hA : Ints w A C.zs) :
    Calls Try.prog 95 #[.agg #[.int .i64 C.dg, .int .i64 C.tn, .string C.nm, .slice A C.zs.length c]] w fun e w' => ∃ A' c', e = .returned (.agg #[.int .i64 C.dg, .int .i64 C.tn, .string C.nm, .slice A' C.zs.length c']) ∧ Own w' w.heap.size 2 (.slice A' C.zs.length c') C.zs ∧ Below w.heap.size w w' := by
  have HI := Lib.hid hA
  go_enter Try.func95, Try.ntmps95
  go_wp2
  go_region_held3 (fun w' => w'.cell? ⟨w.heap.size, 0, none⟩ = some (.int .i64 C.dg) ∧ w'.cell? ⟨w.heap.size, 1, none⟩ = some (.int .i64 C.tn) ∧ w'.cell? ⟨w.heap.size, 2, none⟩ = some (.string C.nm) ∧ w'.cell? ⟨w.heap.size, 3, none⟩ = some (.slice A C.zs.length c)) (simp [go_sem, *])
      (first | (go_at_call 174; refine (l01Own_c _ _ _ h0 hn _ (by repeat (with_reducible first | exact HI.out | assumption | refine Ints.drew ?_ | refine Ints.drewN _ ?_ | refine Ints.alloc _ ?_ | refine Ints.step (by assumption) ?_))).mono ?_; rintro e w1 ⟨v1, rfl, hO1, hb1⟩; obtain ⟨A1, kk1, rfl, hcc1, hcm1, hI1, hF1⟩ := hO1.form; clear hF1; obtain ⟨hc1, hf1, hz1⟩ := bel hb1; (try have hl1 : w.heap.size < w1.heap.size := by (have hq := hb1.size; (try simp at hq); omega)); (try have hm1 : w.heap.size + 1 < w1.heap.size := by (have hq := hb1.size; (try simp at hq); omega)); (try have hn1 : w.heap.size + 1 + 1 < w1.heap.size := by (have hq := hb1.size; (try simp at hq); omega)); (try have hp1 : b < w1.heap.size := by (have hq := hb1.size; (try simp at hq); omega)); (try have ho1 : b' < w1.heap.size := by (have hq := hb1.size; (try simp at hq); omega))))
  all_goals
    have hO := Own.ge_mono hO1 (show w.heap.size + 2 ≤ _ by simp)
    go_wp2
    refine bodyPost_ret (v := .agg #[.int .i64 C.dg, .int .i64 C.tn, .string C.nm, .slice A1 C.zs.length kk1]) (by simp [results, Try.results95, go_sem, *]) rfl ⟨A1, kk1, rfl, (Own.ge_mono (B := w.heap.size + 2) (by repeat (with_reducible first | exact hO | refine Own.set_ ?_ (by first | omega | (simp; omega)) _ | refine Own.alloc _ ?_ | refine Own.step (by assumption) ?_ | refine Own.drew ?_ | refine Own.drewN _ ?_)) (by omega)), by repeat (with_reducible first | exact Below.refl _ _ | assumption | refine Bel.alloc ?_ _ | refine Bel.step (by assumption) ?_ | refine Below.drew ?_ | refine Bel.drewN ?_ _ | refine Below.setCell ?_ (by first | exact Nat.le_refl _ | omega | (simp; done) | (simp; omega)) _)⟩
theorem ownFormula_c (C : Ch) (A : Option Addr) (c : Nat) (h0 : 0 < C.zs.length) (hn : C.zs.length ≤ 1048576) (w : World) (hA : Ints w A C.zs) :
    Calls Try.prog 172 #[.agg #[.int .i64 C.dg, .int .i64 C.tn, .string C.nm, .slice A C.zs.length c]] w fun e w' => ∃ A' c', e = .returned (.agg #[.int .i64 C.dg, .int .i64 C.tn, .string C.nm, .slice A' C.zs.length c']) ∧ Own w' w.heap.size 2 (.slice A' C.zs.length c') C.zs ∧ Below w.heap.size w w' := by
  have HI := Lib.hid hA
  go_enter Try.func172, Try.ntmps172
  go_wp2_with fail
  go_at_call 212; refine (Clone_c _ _ _ h0 hn _ (by repeat (with_reducible first | exact HI.out | assumption | refine Ints.drew ?_ | refine Ints.drewN _ ?_ | refine Ints.alloc _ ?_ | refine Ints.step (by assumption) ?_))).mono ?_; rintro e w1 ⟨v1, rfl, hO1, hb1⟩; obtain ⟨A1, kk1, rfl, hcc1, hcm1, hI1, hF1⟩ := hO1.form; clear hF1; obtain ⟨hc1, hf1, hz1⟩ := bel hb1; (try have hl1 : w.heap.size < w1.heap.size := by (have hq := hb1.size; (try simp at hq); omega)); (try have hm1 : w.heap.size + 1 < w1.heap.size := by (have hq := hb1.size; (try simp at hq); omega)); (try have hn1 : w.heap.size + 1 + 1 < w1.heap.size := by (have hq := hb1.size; (try simp at hq); omega)); (try have hp1 : b < w1.heap.size := by (have hq := hb1.size; (try simp at hq); omega)); (try have ho1 : b' < w1.heap.size := by (have hq := hb1.size; (try simp at hq); omega))
  obtain ⟨q0, q1, q2, q3⟩ := Blk.form (Blk.step hb1 (Blk.alloc _ (Blk.new _ _ _)))
  have hO := Own.ge_mono hO1 (show w.heap.size + 2 ≤ _ by simp)
  go_wp2
  refine bodyPost_ret (v := .agg #[.int .i64 C.dg, .int .i64 C.tn, .string C.nm, .slice A1 C.zs.length kk1]) (by simp [results, Try.results172, go_sem, *]) rfl ⟨A1, kk1, rfl, (Own.ge_mono (B := w.heap.size + 2) (by repeat (with_reducible first | exact hO | refine Own.set_ ?_ (by first | omega | (simp; omega)) _ | refine Own.alloc _ ?_ | refine Own.step (by assumption) ?_ | refine Own.drew ?_ | refine Own.drewN _ ?_)) (by omega)), by repeat (with_reducible first | exact Below.refl _ _ | assumption | refine Bel.alloc ?_ _ | refine Bel.step (by assumption) ?_ | refine Below.drew ?_ | refine Bel.drewN ?_ _ | refine Below.setCell ?_ (by first | exact Nat.le_refl _ | omega | (simp; done) | (simp; omega)) _)⟩
theorem ownChart_c (C : Ch) (A : Option Addr) (c : Nat) (h0 : 0 < C.zs.length) (hn : C.zs.length ≤ 1048576) (w : World) (hA : Ints w A C.zs) :
    Calls Try.prog 93 #[.agg #[.int .i64 C.dg, .int .i64 C.tn, .string C.nm, .slice A C.zs.length c, .int .i64 C.wd, .int .i64 C.lf, .int .i64 C.rt]] w fun e w' => ∃ A' c', e = .returned (.agg #[.int .i64 C.dg, .int .i64 C.tn, .string C.nm, .slice A' C.zs.length c', .int .i64 C.wd, .int .i64 C.lf, .int .i64 C.rt]) ∧ Own w' w.heap.size 2 (.slice A' C.zs.length c') C.zs ∧ Below w.heap.size w w' := by
  have HI := Lib.hid hA
  go_enter Try.func93, Try.ntmps93
  go_wp2_with fail
  go_at_call 172; refine (ownFormula_c _ _ _ h0 hn _ (by repeat (with_reducible first | exact HI.out | assumption | refine Ints.drew ?_ | refine Ints.drewN _ ?_ | refine Ints.alloc _ ?_ | refine Ints.step (by assumption) ?_))).mono ?_; rintro e w1 ⟨A1, kk1, rfl, hO1, hb1⟩; obtain ⟨hc1, hf1, hz1⟩ := bel hb1; (try simp only [World.size_drew, World.cell?_drew, World.frozen?_drew] at hc1 hf1 hz1); (try simp only [World.heap_drewN, World.cell?_drewN, World.frozen?_drewN] at hc1 hf1 hz1); (try have hl1 : w.heap.size < w1.heap.size := by (have hq := hb1.size; (try simp at hq); omega)); (try have hm1 : w.heap.size + 1 < w1.heap.size := by (have hq := hb1.size; (try simp at hq); omega)); (try have hn1 : w.heap.size + 1 + 1 < w1.heap.size := by (have hq := hb1.size; (try simp at hq); omega)); (try have hp1 : b < w1.heap.size := by (have hq := hb1.size; (try simp at hq); omega)); (try have ho1 : b' < w1.heap.size := by (have hq := hb1.size; (try simp at hq); omega))
  obtain ⟨q0, q1, q2, q3, q4, q5, q6⟩ := Blk.chart (Blk.step hb1 (Blk.alloc _ (Blk.new _ _ _)))
  have hO := Own.ge_mono hO1 (show w.heap.size + 2 ≤ _ by simp)
  go_wp2
  refine bodyPost_ret (v := .agg #[.int .i64 C.dg, .int .i64 C.tn, .string C.nm, .slice A1 C.zs.length kk1, .int .i64 C.wd, .int .i64 C.lf, .int .i64 C.rt]) (by simp [results, Try.results93, go_sem, *]) rfl ⟨A1, kk1, rfl, (Own.ge_mono (B := w.heap.size + 2) (by repeat (with_reducible first | exact hO | refine Own.set_ ?_ (by first | omega | (simp; omega)) _ | refine Own.alloc _ ?_ | refine Own.step (by assumption) ?_ | refine Own.drew ?_ | refine Own.drewN _ ?_)) (by omega)), by repeat (with_reducible first | exact Below.refl _ _ | assumption | refine Bel.alloc ?_ _ | refine Bel.step (by assumption) ?_ | refine Below.drew ?_ | refine Bel.drewN ?_ _ | refine Below.setCell ?_ (by first | exact Nat.le_refl _ | omega | (simp; done) | (simp; omega)) _)⟩
/-- The chart of no thing. -/
def ZC : Ch := ⟨0, 0, ⟨#[]⟩, [], 0, 0, 0⟩
def flC (C : Ch) : Int := if okCh C then 0 else 1
def flV (C : Ch) : Ch := if okCh C then { C with lf := C.rt, rt := C.lf } else ZC
theorem FlipChart_S (C : Ch) (A : Option Addr) (c : Nat) (hn : C.zs.length ≤ 1048576) (hs : C.nm.size ≤ 1048576) (w : World) (hA : Ints w A C.zs) :
    Calls Try.prog 24 #[.agg #[.int .i64 C.dg, .int .i64 C.tn, .string C.nm, .slice A C.zs.length c, .int .i64 C.wd, .int .i64 C.lf, .int .i64 C.rt]] w fun e w' => ∃ A' c', e = .returned (.tuple #[.agg #[.int .i64 (flV C).dg, .int .i64 (flV C).tn, .string (flV C).nm, .slice A' (flV C).zs.length c', .int .i64 (flV C).wd, .int .i64 (flV C).lf, .int .i64 (flV C).rt], .int .i64 (flC C)]) ∧ Own w' w.heap.size 2 (.slice A' (flV C).zs.length c') (flV C).zs ∧ Below w.heap.size w w' := by
  by_cases h1 : okCh C = true
  · have HV := Lib.hid (show flV C = { C with lf := C.rt, rt := C.lf } ∧ flC C = 0 by simp [flV, flC, h1])
    obtain ⟨_, ⟨hz, _⟩, _⟩ := okCh_iff h1
    have h0 : 0 < C.zs.length := by omega
    rw [HV.out.1, HV.out.2]
    go_enter Try.func24, Try.ntmps24
    go_wp2_with fail
    go_at_call 94; refine (IsChart_S _ _ _ hn hs _ (Ints.alloc _ (Ints.alloc _ hA))).mono ?_; rintro e w1 ⟨rfl, hb1⟩; obtain ⟨hc1, hf1, hz1⟩ := bel hb1; (try simp only [World.size_drew, World.cell?_drew, World.frozen?_drew] at hc1 hf1 hz1); (try simp only [World.heap_drewN, World.cell?_drewN, World.frozen?_drewN] at hc1 hf1 hz1); (try have hl1 : w.heap.size < w1.heap.size := by (have hq := hb1.size; (try simp at hq); omega)); (try have hm1 : w.heap.size + 1 < w1.heap.size := by (have hq := hb1.size; (try simp at hq); omega)); (try have hn1 : w.heap.size + 1 + 1 < w1.heap.size := by (have hq := hb1.size; (try simp at hq); omega)); (try have hp1 : b < w1.heap.size := by (have hq := hb1.size; (try simp at hq); omega)); (try have ho1 : b' < w1.heap.size := by (have hq := hb1.size; (try simp at hq); omega))
    obtain ⟨q0, q1, q2, q3, q4, q5, q6⟩ := Blk.chart (Blk.step hb1 (Blk.alloc _ (Blk.new _ _ _)))
    obtain ⟨z0, z1, z2, z3, z4, z5, z6⟩ := Blk.chart (C := ZC) (A := none) (c := 0) (Blk.step hb1 (Blk.new _ 30 _))
    have HI := Lib.hid (Ints.step hb1 (Ints.alloc _ (Ints.alloc _ hA)))
    have hbel1 : Below w.heap.size w w1 := by repeat (with_reducible first | exact Below.refl _ _ | assumption | refine Bel.alloc ?_ _ | refine Bel.step (by assumption) ?_ | refine Below.drew ?_ | refine Bel.drewN ?_ _ | refine Below.setCell ?_ (by first | exact Nat.le_refl _ | omega | (simp; done) | (simp; omega)) _)
    go_wp2
    go_region_held3 (fun w' => (w'.cell? ⟨w.heap.size, 0, none⟩ = some (.int .i64 C.dg) ∧ w'.cell? ⟨w.heap.size, 1, none⟩ = some (.int .i64 C.tn) ∧ w'.cell? ⟨w.heap.size, 2, none⟩ = some (.string C.nm) ∧ w'.cell? ⟨w.heap.size, 3, none⟩ = some (.slice A C.zs.length c) ∧ w'.cell? ⟨w.heap.size, 4, none⟩ = some (.int .i64 C.wd) ∧ w'.cell? ⟨w.heap.size, 5, none⟩ = some (.int .i64 C.lf) ∧ w'.cell? ⟨w.heap.size, 6, none⟩ = some (.int .i64 C.rt))) (simp [go_sem, *])
        (first | (go_at_call 95; refine (l18Own_c _ _ _ h0 hn _ (by repeat (with_reducible first | exact HI.out | assumption | refine Ints.drew ?_ | refine Ints.drewN _ ?_ | refine Ints.alloc _ ?_ | refine Ints.step (by assumption) ?_))).mono ?_; rintro e wx ⟨Ax, kkx, rfl, hOx, hbx⟩; obtain ⟨hcx, hfx, hzx⟩ := bel hbx; (try simp only [World.size_drew, World.cell?_drew, World.frozen?_drew] at hcx hfx hzx); (try simp only [World.heap_drewN, World.cell?_drewN, World.frozen?_drewN] at hcx hfx hzx); (try have hlx : w.heap.size < wx.heap.size := by (have hq := hbx.size; (try simp at hq); omega)); (try have hmx : w.heap.size + 1 < wx.heap.size := by (have hq := hbx.size; (try simp at hq); omega)); (try have hnx : w.heap.size + 1 + 1 < wx.heap.size := by (have hq := hbx.size; (try simp at hq); omega)); (try have hpx : b < wx.heap.size := by (have hq := hbx.size; (try simp at hq); omega)); (try have hox : b' < wx.heap.size := by (have hq := hbx.size; (try simp at hq); omega))))
    all_goals
      have hO := Own.ge_mono hOx (show w1.heap.size ≤ _ by simp)
      go_wp2
      refine bodyPost_ret (v := .tuple #[.agg #[.int .i64 ({ C with lf := C.rt, rt := C.lf } : Ch).dg, .int .i64 ({ C with lf := C.rt, rt := C.lf } : Ch).tn, .string ({ C with lf := C.rt, rt := C.lf } : Ch).nm, .slice Ax ({ C with lf := C.rt, rt := C.lf } : Ch).zs.length kkx, .int .i64 ({ C with lf := C.rt, rt := C.lf } : Ch).wd, .int .i64 ({ C with lf := C.rt, rt := C.lf } : Ch).lf, .int .i64 ({ C with lf := C.rt, rt := C.lf } : Ch).rt], .int .i64 0]) (by simp [results, Try.results24, go_sem, *]) rfl ⟨Ax, kkx, rfl, (Own.ge_mono (B := w1.heap.size) (by repeat (with_reducible first | exact hO | refine Own.set_ ?_ (by first | omega | (simp; omega)) _ | refine Own.alloc _ ?_ | refine Own.step (by assumption) ?_ | refine Own.drew ?_ | refine Own.drewN _ ?_)) (by omega)), by repeat (with_reducible first | exact Below.refl _ _ | assumption | refine Bel.alloc ?_ _ | refine Bel.step (by assumption) ?_ | refine Below.drew ?_ | refine Bel.drewN ?_ _ | refine Below.setCell ?_ (by first | exact Nat.le_refl _ | omega | (simp; done) | (simp; omega)) _)⟩
  · have h1' : okCh C = false := by simpa using h1
    have HV := Lib.hid (show flV C = ZC ∧ flC C = 1 by simp [flV, flC, h1'])
    clear h1
    rw [HV.out.1, HV.out.2]
    go_enter Try.func24, Try.ntmps24
    go_wp2_with fail
    go_at_call 94; refine (IsChart_S _ _ _ hn hs _ (Ints.alloc _ (Ints.alloc _ hA))).mono ?_; rintro e w1 ⟨rfl, hb1⟩; obtain ⟨hc1, hf1, hz1⟩ := bel hb1; (try simp only [World.size_drew, World.cell?_drew, World.frozen?_drew] at hc1 hf1 hz1); (try simp only [World.heap_drewN, World.cell?_drewN, World.frozen?_drewN] at hc1 hf1 hz1); (try have hl1 : w.heap.size < w1.heap.size := by (have hq := hb1.size; (try simp at hq); omega)); (try have hm1 : w.heap.size + 1 < w1.heap.size := by (have hq := hb1.size; (try simp at hq); omega)); (try have hn1 : w.heap.size + 1 + 1 < w1.heap.size := by (have hq := hb1.size; (try simp at hq); omega)); (try have hp1 : b < w1.heap.size := by (have hq := hb1.size; (try simp at hq); omega)); (try have ho1 : b' < w1.heap.size := by (have hq := hb1.size; (try simp at hq); omega))
    go_wp2
    refine bodyPost_ret (v := .tuple #[.agg #[.int .i64 ZC.dg, .int .i64 ZC.tn, .string ZC.nm, .slice none ZC.zs.length 0, .int .i64 ZC.wd, .int .i64 ZC.lf, .int .i64 ZC.rt], .int .i64 1]) (by simp [results, Try.results24, go_sem, ZC, *]) rfl ⟨none, 0, rfl, Own.nil _ _ _, by repeat (with_reducible first | exact Below.refl _ _ | assumption | refine Bel.alloc ?_ _ | refine Bel.step (by assumption) ?_ | refine Below.drew ?_ | refine Bel.drewN ?_ _ | refine Below.setCell ?_ (by first | exact Nat.le_refl _ | omega | (simp; done) | (simp; omega)) _)⟩
theorem FlipChart_I (C : Ch) (A : Option Addr) (c : Nat) (hn : C.zs.length ≤ 1048576) (hs : C.nm.size ≤ 1048576) (w : World) (hA : Ints w A C.zs) :
    Calls Try.prog 23 #[.agg #[.int .i64 C.dg, .int .i64 C.tn, .string C.nm, .slice A C.zs.length c, .int .i64 C.wd, .int .i64 C.lf, .int .i64 C.rt]] w fun e w' => ∃ A' c', e = .returned (.tuple #[.agg #[.int .i64 (flV C).dg, .int .i64 (flV C).tn, .string (flV C).nm, .slice A' (flV C).zs.length c', .int .i64 (flV C).wd, .int .i64 (flV C).lf, .int .i64 (flV C).rt], .int .i64 (flC C)]) ∧ Own w' w.heap.size 2 (.slice A' (flV C).zs.length c') (flV C).zs ∧ Below w.heap.size w w' := by
  by_cases h1 : okCh C = true
  · have HV := Lib.hid (show flV C = { C with lf := C.rt, rt := C.lf } ∧ flC C = 0 by simp [flV, flC, h1])
    obtain ⟨_, ⟨hz, _⟩, _⟩ := okCh_iff h1
    have h0 : 0 < C.zs.length := by omega
    rw [HV.out.1, HV.out.2]
    go_enter Try.func23, Try.ntmps23
    go_wp2_with fail
    go_at_call 30; refine (IsChart_I _ _ _ hn hs _ (Ints.alloc _ (Ints.alloc _ hA))).mono ?_; rintro e w1 ⟨rfl, hb1⟩; obtain ⟨hc1, hf1, hz1⟩ := bel hb1; (try simp only [World.size_drew, World.cell?_drew, World.frozen?_drew] at hc1 hf1 hz1); (try simp only [World.heap_drewN, World.cell?_drewN, World.frozen?_drewN] at hc1 hf1 hz1); (try have hl1 : w.heap.size < w1.heap.size := by (have hq := hb1.size; (try simp at hq); omega)); (try have hm1 : w.heap.size + 1 < w1.heap.size := by (have hq := hb1.size; (try simp at hq); omega)); (try have hn1 : w.heap.size + 1 + 1 < w1.heap.size := by (have hq := hb1.size; (try simp at hq); omega)); (try have hp1 : b < w1.heap.size := by (have hq := hb1.size; (try simp at hq); omega)); (try have ho1 : b' < w1.heap.size := by (have hq := hb1.size; (try simp at hq); omega))
    have HI := Lib.hid (Ints.step hb1 (Ints.alloc _ (Ints.alloc _ hA)))
    have hP := Blk.step hb1 (Blk.alloc (.cells #[.int .i64 ZC.dg, .int .i64 ZC.tn, .string ZC.nm, .slice none ZC.zs.length 0, .int .i64 ZC.wd, .int .i64 ZC.lf, .int .i64 ZC.rt] 30) (Blk.new w 30 #[.int .i64 C.dg, .int .i64 C.tn, .string C.nm, .slice A C.zs.length c, .int .i64 C.wd, .int .i64 C.lf, .int .i64 C.rt]))
    have hbel1 : Below w.heap.size w w1 := by repeat (with_reducible first | exact Below.refl _ _ | assumption | refine Bel.alloc ?_ _ | refine Bel.step (by assumption) ?_ | refine Below.drew ?_ | refine Bel.drewN ?_ _ | refine Below.setCell ?_ (by first | exact Nat.le_refl _ | omega | (simp; done) | (simp; omega)) _)
    go_wp2_with fail
    go_at_call 93; refine (ownChart_c _ _ _ h0 hn _ HI.out).mono ?_; rintro e w2 ⟨A2, kk2, rfl, hO2, hb2⟩; obtain ⟨hc2, hf2, hz2⟩ := bel hb2; (try simp only [World.size_drew, World.cell?_drew, World.frozen?_drew] at hc2 hf2 hz2); (try simp only [World.heap_drewN, World.cell?_drewN, World.frozen?_drewN] at hc2 hf2 hz2); (try have hl2 : w.heap.size < w2.heap.size := by (have hq := hb2.size; (try simp at hq); omega)); (try have hm2 : w.heap.size + 1 < w2.heap.size := by (have hq := hb2.size; (try simp at hq); omega)); (try have hn2 : w.heap.size + 1 + 1 < w2.heap.size := by (have hq := hb2.size; (try simp at hq); omega)); (try have hp2 : b < w2.heap.size := by (have hq := hb2.size; (try simp at hq); omega)); (try have ho2 : b' < w2.heap.size := by (have hq := hb2.size; (try simp at hq); omega))
    have hbel2 : Below w.heap.size w w2 := by repeat (with_reducible first | exact Below.refl _ _ | assumption | refine Bel.alloc ?_ _ | refine Bel.step (by assumption) ?_ | refine Below.drew ?_ | refine Bel.drewN ?_ _ | refine Below.setCell ?_ (by first | exact Nat.le_refl _ | omega | (simp; done) | (simp; omega)) _)
    have lt1 : w.heap.size + 1 < w1.heap.size := by have := hb1.size; simp at this; omega
    have lt2 : w1.heap.size ≤ w2.heap.size := hb2.size
    go_wp2
    obtain ⟨w3, hw3⟩ : ∃ w3, w3 = w2.alloc (.cells #[.int .i64 C.dg, .int .i64 C.tn, .string C.nm, .slice A2 C.zs.length kk2, .int .i64 C.wd, .int .i64 C.lf, .int .i64 C.rt] 30) := ⟨_, rfl⟩
    have hbel3 : Below w.heap.size w w3 := by rw [hw3]; repeat (with_reducible first | exact Below.refl _ _ | assumption | refine Bel.alloc ?_ _ | refine Bel.step (by assumption) ?_ | refine Below.drew ?_ | refine Bel.drewN ?_ _ | refine Below.setCell ?_ (by first | exact Nat.le_refl _ | omega | (simp; done) | (simp; omega)) _)
    have hB3 : Blk w3 w2.heap.size 30 #[.int .i64 C.dg, .int .i64 C.tn, .string C.nm, .slice A2 C.zs.length kk2, .int .i64 C.wd, .int .i64 C.lf, .int .i64 C.rt] := by rw [hw3]; exact Blk.new _ _ _
    obtain ⟨q0, q1, q2, q3, q4, q5, q6⟩ : w3.cell? ⟨w.heap.size, 0, none⟩ = some (.int .i64 C.dg) ∧ w3.cell? ⟨w.heap.size, 1, none⟩ = some (.int .i64 C.tn) ∧ w3.cell? ⟨w.heap.size, 2, none⟩ = some (.string C.nm) ∧ w3.cell? ⟨w.heap.size, 3, none⟩ = some (.slice A C.zs.length c) ∧ w3.cell? ⟨w.heap.size, 4, none⟩ = some (.int .i64 C.wd) ∧ w3.cell? ⟨w.heap.size, 5, none⟩ = some (.int .i64 C.lf) ∧ w3.cell? ⟨w.heap.size, 6, none⟩ = some (.int .i64 C.rt) := by rw [hw3]; exact Blk.chart (Blk.alloc _ (Blk.step hb2 hP))
    obtain ⟨r0, r1, r2, r3, r4, r5, r6⟩ := Blk.chart hB3
    have rf5 := hB3.frozen 5
    have rf6 := hB3.frozen 6
    have hT3 : Blk w3 (w.heap.size + 1) 30 #[.int .i64 ZC.dg, .int .i64 ZC.tn, .string ZC.nm, .slice none ZC.zs.length 0, .int .i64 ZC.wd, .int .i64 ZC.lf, .int .i64 ZC.rt] := by
      rw [hw3]
      have := Blk.new (w.alloc (.cells #[.int .i64 C.dg, .int .i64 C.tn, .string C.nm, .slice A C.zs.length c, .int .i64 C.wd, .int .i64 C.lf, .int .i64 C.rt] 30)) 30 #[.int .i64 ZC.dg, .int .i64 ZC.tn, .string ZC.nm, .slice none ZC.zs.length 0, .int .i64 ZC.wd, .int .i64 ZC.lf, .int .i64 ZC.rt]
      simp only [World.size_alloc] at this
      exact Blk.alloc _ (Blk.step hb2 (Blk.step hb1 this))
    obtain ⟨z0, z1, z2, z3, z4, z5, z6⟩ := Blk.chart hT3
    have hO3 : Own w3 w1.heap.size 2 (.slice A2 C.zs.length kk2) C.zs := by rw [hw3]; exact Own.alloc _ hO2
    have hlt3 : w2.heap.size < w3.heap.size := hB3.lt
    rw [← hw3]
    have ne2 := own_ne_lo hO2 (Nat.le_refl w2.heap.size)
    have HB3 := Lib.hid hB3
    have HT3 := Lib.hid hT3
    clear hw3 hP hb1 hc1 hf1 hz1 hb2 hc2 hf2 hz2 hO2 hB3 hT3
    go_region_held3 (fun w' => (w'.cell? ⟨w.heap.size, 0, none⟩ = some (.int .i64 C.dg) ∧ w'.cell? ⟨w.heap.size, 1, none⟩ = some (.int .i64 C.tn) ∧ w'.cell? ⟨w.heap.size, 2, none⟩ = some (.string C.nm) ∧ w'.cell? ⟨w.heap.size, 3, none⟩ = some (.slice A C.zs.length c) ∧ w'.cell? ⟨w.heap.size, 4, none⟩ = some (.int .i64 C.wd) ∧ w'.cell? ⟨w.heap.size, 5, none⟩ = some (.int .i64 C.lf) ∧ w'.cell? ⟨w.heap.size, 6, none⟩ = some (.int .i64 C.rt))) (simp [go_sem, *])
        (first | (go_at_call 30; refine (IsChart_I _ _ _ (by omega) (by omega) _ (by assumption)).mono ?_; rintro e w1 ⟨rfl, hb1⟩; obtain ⟨hc1, hf1, hz1⟩ := bel hb1; (try simp only [World.size_drew, World.cell?_drew, World.frozen?_drew] at hc1 hf1 hz1); (try simp only [World.heap_drewN, World.cell?_drewN, World.frozen?_drewN] at hc1 hf1 hz1); (try have hl1 : w.heap.size < w1.heap.size := by (have hq := hb1.size; (try simp at hq); omega)); (try have hm1 : w.heap.size + 1 < w1.heap.size := by (have hq := hb1.size; (try simp at hq); omega)); (try have hn1 : w.heap.size + 1 + 1 < w1.heap.size := by (have hq := hb1.size; (try simp at hq); omega)); (try have hp1 : b < w1.heap.size := by (have hq := hb1.size; (try simp at hq); omega)); (try have ho1 : b' < w1.heap.size := by (have hq := hb1.size; (try simp at hq); omega))))
    all_goals
      obtain ⟨w4, hw4⟩ : ∃ w4, w4 = ((w3.setCell ⟨w2.heap.size, 5, none⟩ (.int .i64 C.rt)).setCell ⟨w2.heap.size, 6, none⟩ (.int .i64 C.lf)).drew := ⟨_, rfl⟩
      have hB4 : Blk w4 w2.heap.size 30 #[.int .i64 ({ C with lf := C.rt, rt := C.lf } : Ch).dg, .int .i64 ({ C with lf := C.rt, rt := C.lf } : Ch).tn, .string ({ C with lf := C.rt, rt := C.lf } : Ch).nm, .slice A2 ({ C with lf := C.rt, rt := C.lf } : Ch).zs.length kk2, .int .i64 ({ C with lf := C.rt, rt := C.lf } : Ch).wd, .int .i64 ({ C with lf := C.rt, rt := C.lf } : Ch).lf, .int .i64 ({ C with lf := C.rt, rt := C.lf } : Ch).rt] := by
        rw [hw4]; exact Blk.drew (by simpa using (HB3.out.set_ 5 (.int .i64 C.rt)).set_ 6 (.int .i64 C.lf))
      have hT4 : Blk w4 (w.heap.size + 1) 30 #[.int .i64 ZC.dg, .int .i64 ZC.tn, .string ZC.nm, .slice none ZC.zs.length 0, .int .i64 ZC.wd, .int .i64 ZC.lf, .int .i64 ZC.rt] := by
        rw [hw4]; exact Blk.drew (Blk.far _ (by simp; omega) (Blk.far _ (by simp; omega) HT3.out))
      have hO4 : Own w4 w1.heap.size 2 (.slice A2 C.zs.length kk2) C.zs := by
        rw [hw4]; exact Own.drew (Own.kept hO3 (grown_set (grown_set (World.grownBy.refl w3 _) _) _) ne2)
      have hbel4 : Below w.heap.size w w4 := by rw [hw4]; repeat (with_reducible first | exact Below.refl _ _ | assumption | refine Bel.alloc ?_ _ | refine Bel.step (by assumption) ?_ | refine Below.drew ?_ | refine Bel.drewN ?_ _ | refine Below.setCell ?_ (by first | exact Nat.le_refl _ | omega | (simp; done) | (simp; omega)) _)
      have ts4 := hT4.lt
      rw [← hw4]
      clear hw4 q0 q1 q2 q3 q4 q5 q6 r0 r1 r2 r3 r4 r5 r6 z0 z1 z2 z3 z4 z5 z6 rf5 rf6 hO3
      obtain ⟨r0, r1, r2, r3, r4, r5, r6⟩ := Blk.chart hB4
      obtain ⟨z0, z1, z2, z3, z4, z5, z6⟩ := Blk.chart hT4
      have zf0 := hT4.frozen 0
      have zf1 := hT4.frozen 1
      have zf2 := hT4.frozen 2
      have zf3 := hT4.frozen 3
      have zf4 := hT4.frozen 4
      have zf5 := hT4.frozen 5
      have zf6 := hT4.frozen 6
      clear hB4 hT4
      go_wp2
      refine bodyPost_ret (v := .tuple #[.agg #[.int .i64 ({ C with lf := C.rt, rt := C.lf } : Ch).dg, .int .i64 ({ C with lf := C.rt, rt := C.lf } : Ch).tn, .string ({ C with lf := C.rt, rt := C.lf } : Ch).nm, .slice A2 ({ C with lf := C.rt, rt := C.lf } : Ch).zs.length kk2, .int .i64 ({ C with lf := C.rt, rt := C.lf } : Ch).wd, .int .i64 ({ C with lf := C.rt, rt := C.lf } : Ch).lf, .int .i64 ({ C with lf := C.rt, rt := C.lf } : Ch).rt], .int .i64 0]) (by simp [results, Try.results23, go_sem, *]) rfl ⟨A2, kk2, rfl, (Own.ge_mono (B := w1.heap.size) (by repeat (with_reducible first | exact hO4 | refine Own.set_ ?_ (by first | omega | (simp; omega)) _ | refine Own.alloc _ ?_ | refine Own.step (by assumption) ?_ | refine Own.drew ?_ | refine Own.drewN _ ?_)) (by omega)), by repeat (with_reducible first | exact Below.refl _ _ | assumption | refine Bel.alloc ?_ _ | refine Bel.step (by assumption) ?_ | refine Below.drew ?_ | refine Bel.drewN ?_ _ | refine Below.setCell ?_ (by first | exact Nat.le_refl _ | omega | (simp; done) | (simp; omega)) _)⟩
  · have h1' : okCh C = false := by simpa using h1
    have HV := Lib.hid (show flV C = ZC ∧ flC C = 1 by simp [flV, flC, h1'])
    clear h1
    rw [HV.out.1, HV.out.2]
    go_enter Try.func23, Try.ntmps23
    go_wp2_with fail
    go_at_call 30; refine (IsChart_I _ _ _ hn hs _ (Ints.alloc _ (Ints.alloc _ hA))).mono ?_; rintro e w1 ⟨rfl, hb1⟩; obtain ⟨hc1, hf1, hz1⟩ := bel hb1; (try simp only [World.size_drew, World.cell?_drew, World.frozen?_drew] at hc1 hf1 hz1); (try simp only [World.heap_drewN, World.cell?_drewN, World.frozen?_drewN] at hc1 hf1 hz1); (try have hl1 : w.heap.size < w1.heap.size := by (have hq := hb1.size; (try simp at hq); omega)); (try have hm1 : w.heap.size + 1 < w1.heap.size := by (have hq := hb1.size; (try simp at hq); omega)); (try have hn1 : w.heap.size + 1 + 1 < w1.heap.size := by (have hq := hb1.size; (try simp at hq); omega)); (try have hp1 : b < w1.heap.size := by (have hq := hb1.size; (try simp at hq); omega)); (try have ho1 : b' < w1.heap.size := by (have hq := hb1.size; (try simp at hq); omega))
    go_wp2
    refine bodyPost_ret (v := .tuple #[.agg #[.int .i64 ZC.dg, .int .i64 ZC.tn, .string ZC.nm, .slice none ZC.zs.length 0, .int .i64 ZC.wd, .int .i64 ZC.lf, .int .i64 ZC.rt], .int .i64 1]) (by simp [results, Try.results23, go_sem, ZC, *]) rfl ⟨none, 0, rfl, Own.nil _ _ _, by repeat (with_reducible first | exact Below.refl _ _ | assumption | refine Bel.alloc ?_ _ | refine Bel.step (by assumption) ?_ | refine Below.drew ?_ | refine Bel.drewN ?_ _ | refine Below.setCell ?_ (by first | exact Nat.le_refl _ | omega | (simp; done) | (simp; omega)) _)⟩
end Go.Proofs.Ytpmcgicopogbhaa
