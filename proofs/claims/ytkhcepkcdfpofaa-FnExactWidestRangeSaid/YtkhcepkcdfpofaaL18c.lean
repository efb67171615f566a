/- Releases: sizes and copies. Conditions: as stated at each contract. -/
import Derived.Test.YtkhcepkcdfpofaaProg
import Derived.Test.YtkhcepkcdfpofaaBase
import Derived.Test.YtkhcepkcdfpofaaRw
import Derived.Test.YtkhcepkcdfpofaaL01
import Derived.Test.YtkhcepkcdfpofaaCp
import Derived.Test.YtkhcepkcdfpofaaCh
import Derived.Test.YtkhcepkcdfpofaaL18
import Derived.WalkKit
import Derived.WalkSpells
import Derived.WalkLawsBesides
import Derived.Lib.Hide
import Derived.Deep.QuietTactic
import Derived.BigQuiet
import Derived.Deep.Draws
import Derived.Deep.RegionHeld3
import Derived.Deep.Cut
namespace Go.Proofs.Ytkhcepkcdfpofaa
open Go.RowKit
set_option linter.unusedVariables false
theorem Blk.release {w : World} {g : Nat} {t : TypeId} {R : Re} {A : Option Addr} {c : Nat} (h : Blk w g t #[.int .i64 R.ch.dg, .int .i64 R.ch.tn, .string R.ch.nm, .slice A R.ch.zs.length c, .int .i64 R.ch.wd, .int .i64 R.ch.lf, .int .i64 R.ch.rt, .int .i64 R.ad, .int .i64 R.at_, .int .i64 R.bd, .int .i64 R.bt, .int .i64 R.cd, .int .i64 R.ct, .int .i64 R.dd, .int .i64 R.dt, .int .i64 R.ey, .int .i64 R.bo]) : w.cell? ⟨g, 0, none⟩ = some (.int .i64 R.ch.dg) ∧ w.cell? ⟨g, 1, none⟩ = some (.int .i64 R.ch.tn) ∧ w.cell? ⟨g, 2, none⟩ = some (.string R.ch.nm) ∧ w.cell? ⟨g, 3, none⟩ = some (.slice A R.ch.zs.length c) ∧ w.cell? ⟨g, 4, none⟩ = some (.int .i64 R.ch.wd) ∧ w.cell? ⟨g, 5, none⟩ = some (.int .i64 R.ch.lf) ∧ w.cell? ⟨g, 6, none⟩ = some (.int .i64 R.ch.rt) ∧ w.cell? ⟨g, 7, none⟩ = some (.int .i64 R.ad) ∧ w.cell? ⟨g, 8, none⟩ = some (.int .i64 R.at_) ∧ w.cell? ⟨g, 9, none⟩ = some (.int .i64 R.bd) ∧ w.cell? ⟨g, 10, none⟩ = some (.int .i64 R.bt) ∧ w.cell? ⟨g, 11, none⟩ = some (.int .i64 R.cd) ∧ w.cell? ⟨g, 12, none⟩ = some (.int .i64 R.ct) ∧ w.cell? ⟨g, 13, none⟩ = some (.int .i64 R.dd) ∧ w.cell? ⟨g, 14, none⟩ = some (.int .i64 R.dt) ∧ w.cell? ⟨g, 15, none⟩ = some (.int .i64 R.ey) ∧ w.cell? ⟨g, 16, none⟩ = some (.int .i64 R.bo) :=
  ⟨by rw [h.cell]; rfl, by rw [h.cell]; rfl, by rw [h.cell]; rfl, by rw [h.cell]; rfl, by rw [h.cell]; rfl, by rw [h.cell]; rfl, by rw [h.cell]; rfl, by rw [h.cell]; rfl, by rw [h.cell]; rfl, by rw [h.cell]; rfl, by rw [h.cell]; rfl, by rw [h.cell]; rfl, by rw [h.cell]; rfl, by rw [h.cell]; rfl, by rw [h.cell]; rfl, by rw [h.cell]; rfl, by rw [h.cell]; rfl⟩
theorem szRelease_c (R : Re) (A : Option Addr) (c : Nat) (l : Int) (h1 : 0 ≤ l) (h2 : l ≤ 1048576) (hn : R.ch.zs.length ≤ 9223372036854775807) (hs : R.ch.nm.size ≤ 9223372036854775807) (w : World) :
    Calls Try.prog 27 #[.agg #[.int .i64 R.ch.dg, .int .i64 R.ch.tn, .string R.ch.nm, .slice A R.ch.zs.length c, .int .i64 R.ch.wd, .int .i64 R.ch.lf, .int .i64 R.ch.rt, .int .i64 R.ad, .int .i64 R.at_, .int .i64 R.bd, .int .i64 R.bt, .int .i64 R.cd, .int .i64 R.ct, .int .i64 R.dd, .int .i64 R.dt, .int .i64 R.ey, .int .i64 R.bo], .int .i64 l] w fun e w' => e = .returned (.int .i64 (sz2 l R.ch)) ∧ Below w.heap.size w w' := by
  by_cases h3 : sz2 l R.ch < 0
  · have HW := Lib.hid (show sz2 l R.ch = -1 by unfold sz2 szV at *; (repeat' split at *) <;> omega)
    go_enter Try.func27, Try.ntmps27
    go_wp2_with fail
    refine (szChart_c R.ch A c l h1 h2 hn hs _).mono ?_; rintro e w1 ⟨rfl, hb1⟩
    go_wp2
    go_ret
    exact ⟨ret_int (by rw [HW.out]), by repeat (with_reducible first | exact Below.refl _ _ | assumption | refine Bel.alloc ?_ _ | refine Bel.step (by assumption) ?_ | refine Below.drew ?_ | refine Bel.drewN ?_ _ | refine Below.setCell ?_ (by first | exact Nat.le_refl _ | omega | (simp; done) | (simp; omega)) _)⟩
  · go_enter Try.func27, Try.ntmps27
    go_wp2_with fail
    refine (szChart_c R.ch A c l h1 h2 hn hs _).mono ?_; rintro e w1 ⟨rfl, hb1⟩
    go_wp2
    go_ret
    exact ⟨rfl, by repeat (with_reducible first | exact Below.refl _ _ | assumption | refine Bel.alloc ?_ _ | refine Bel.step (by assumption) ?_ | refine Below.drew ?_ | refine Bel.drewN ?_ _ | refine Below.setCell ?_ (by first | exact Nat.le_refl _ | omega | (simp; done) | (simp; omega)) _)⟩
set_option maxRecDepth 20000 in
set_option maxHeartbeats 2000000 in
theorem toRelease_c (R : Re) (A : Option Addr) (c : Nat) (hn : R.ch.zs.length ≤ 1048576) (w : World) (hA : Ints w A R.ch.zs) :
    Calls Try.prog 29 #[.agg #[.int .i64 R.ch.dg, .int .i64 R.ch.tn, .string R.ch.nm, .slice A R.ch.zs.length c, .int .i64 R.ch.wd, .int .i64 R.ch.lf, .int .i64 R.ch.rt, .int .i64 R.ad, .int .i64 R.at_, .int .i64 R.bd, .int .i64 R.bt, .int .i64 R.cd, .int .i64 R.ct, .int .i64 R.dd, .int .i64 R.dt, .int .i64 R.ey, .int .i64 R.bo]] w fun e w' => ∃ g, e = .returned (.agg #[.int .i64 R.ch.dg, .int .i64 R.ch.tn, .string R.ch.nm, .slice (some ⟨g, 0, none⟩) R.ch.zs.length R.ch.zs.length, .int .i64 R.ch.wd, .int .i64 R.ch.lf, .int .i64 R.ch.rt, .int .i64 R.ad, .int .i64 R.at_, .int .i64 R.bd, .int .i64 R.bt, .int .i64 R.cd, .int .i64 R.ct, .int .i64 R.dd, .int .i64 R.dt, .int .i64 R.ey, .int .i64 R.bo]) ∧ w.heap.size ≤ g ∧ Blk w' g 2 (icells R.ch.zs) ∧ Below w.heap.size w w' := by
  go_enter Try.func29, Try.ntmps29
  go_wp2_with fail
  go_at_call 16; refine (toChart_c R.ch _ _ hn _ (Ints.step (show Below w.heap.size w _ from by repeat (with_reducible first | exact Below.refl _ _ | assumption | refine Bel.alloc ?_ _ | refine Bel.step (by assumption) ?_ | refine Below.drew ?_ | refine Bel.drewN ?_ _ | refine Below.setCell ?_ (by first | exact Nat.le_refl _ | omega | (simp; done) | (simp; omega)) _)) hA)).mono ?_; rintro e w1 ⟨g, rfl, hg1, hB1, hb1⟩
  obtain ⟨hc1, hf1, hz1⟩ := bel hb1
  have s1 := hb1.size
  simp at s1 hg1
  have hl1 : w.heap.size < w1.heap.size := by omega
  have hm1 : w.heap.size + 1 < w1.heap.size := by omega
  have hn1 : w.heap.size + 1 + 1 < w1.heap.size := by omega
  have HR1 := Blk.step hb1 (Blk.alloc (.cells #[.int .i64 0, .int .i64 0, .string ⟨#[]⟩, .slice none 0 0, .int .i64 0, .int .i64 0, .int .i64 0, .int .i64 0, .int .i64 0, .int .i64 0, .int .i64 0, .int .i64 0, .int .i64 0, .int .i64 0, .int .i64 0, .int .i64 0, .int .i64 0] 55) (Blk.alloc (.cells #[.int .i64 0, .int .i64 0, .string ⟨#[]⟩, .slice none 0 0, .int .i64 0, .int .i64 0, .int .i64 0, .int .i64 0, .int .i64 0, .int .i64 0, .int .i64 0, .int .i64 0, .int .i64 0, .int .i64 0, .int .i64 0, .int .i64 0, .int .i64 0] 55) (Blk.new w 52 #[.int .i64 R.ch.dg, .int .i64 R.ch.tn, .string R.ch.nm, .slice A R.ch.zs.length c, .int .i64 R.ch.wd, .int .i64 R.ch.lf, .int .i64 R.ch.rt, .int .i64 R.ad, .int .i64 R.at_, .int .i64 R.bd, .int .i64 R.bt, .int .i64 R.cd, .int .i64 R.ct, .int .i64 R.dd, .int .i64 R.dt, .int .i64 R.ey, .int .i64 R.bo])))
  have HD1 : Blk w1 (w.heap.size + 1 + 1) 55 #[.int .i64 0, .int .i64 0, .string ⟨#[]⟩, .slice none 0 0, .int .i64 0, .int .i64 0, .int .i64 0, .int .i64 0, .int .i64 0, .int .i64 0, .int .i64 0, .int .i64 0, .int .i64 0, .int .i64 0, .int .i64 0, .int .i64 0, .int .i64 0] := by
    have := Blk.step hb1 (Blk.new ((w.alloc (.cells #[.int .i64 R.ch.dg, .int .i64 R.ch.tn, .string R.ch.nm, .slice A R.ch.zs.length c, .int .i64 R.ch.wd, .int .i64 R.ch.lf, .int .i64 R.ch.rt, .int .i64 R.ad, .int .i64 R.at_, .int .i64 R.bd, .int .i64 R.bt, .int .i64 R.cd, .int .i64 R.ct, .int .i64 R.dd, .int .i64 R.dt, .int .i64 R.ey, .int .i64 R.bo] 52)).alloc (.cells #[.int .i64 0, .int .i64 0, .string ⟨#[]⟩, .slice none 0 0, .int .i64 0, .int .i64 0, .int .i64 0, .int .i64 0, .int .i64 0, .int .i64 0, .int .i64 0, .int .i64 0, .int .i64 0, .int .i64 0, .int .i64 0, .int .i64 0, .int .i64 0] 55)) 55 #[.int .i64 0, .int .i64 0, .string ⟨#[]⟩, .slice none 0 0, .int .i64 0, .int .i64 0, .int .i64 0, .int .i64 0, .int .i64 0, .int .i64 0, .int .i64 0, .int .i64 0, .int .i64 0, .int .i64 0, .int .i64 0, .int .i64 0, .int .i64 0])
    simpa using this
  have HS1 : Blk w1 (w.heap.size + 1) 55 #[.int .i64 0, .int .i64 0, .string ⟨#[]⟩, .slice none 0 0, .int .i64 0, .int .i64 0, .int .i64 0, .int .i64 0, .int .i64 0, .int .i64 0, .int .i64 0, .int .i64 0, .int .i64 0, .int .i64 0, .int .i64 0, .int .i64 0, .int .i64 0] := by
    have := Blk.step hb1 (Blk.alloc (.cells #[.int .i64 0, .int .i64 0, .string ⟨#[]⟩, .slice none 0 0, .int .i64 0, .int .i64 0, .int .i64 0, .int .i64 0, .int .i64 0, .int .i64 0, .int .i64 0, .int .i64 0, .int .i64 0, .int .i64 0, .int .i64 0, .int .i64 0, .int .i64 0] 55) (Blk.new (w.alloc (.cells #[.int .i64 R.ch.dg, .int .i64 R.ch.tn, .string R.ch.nm, .slice A R.ch.zs.length c, .int .i64 R.ch.wd, .int .i64 R.ch.lf, .int .i64 R.ch.rt, .int .i64 R.ad, .int .i64 R.at_, .int .i64 R.bd, .int .i64 R.bt, .int .i64 R.cd, .int .i64 R.ct, .int .i64 R.dd, .int .i64 R.dt, .int .i64 R.ey, .int .i64 R.bo] 52)) 55 #[.int .i64 0, .int .i64 0, .string ⟨#[]⟩, .slice none 0 0, .int .i64 0, .int .i64 0, .int .i64 0, .int .i64 0, .int .i64 0, .int .i64 0, .int .i64 0, .int .i64 0, .int .i64 0, .int .i64 0, .int .i64 0, .int .i64 0, .int .i64 0]))
    simpa using this
  have hbel1 : Below w.heap.size w w1 := by repeat (with_reducible first | exact Below.refl _ _ | assumption | refine Bel.alloc ?_ _ | refine Bel.step (by assumption) ?_ | refine Below.drew ?_ | refine Bel.drewN ?_ _ | refine Below.setCell ?_ (by first | exact Nat.le_refl _ | omega | (simp; done) | (simp; omega)) _)
  have z1 : w.heap.size + 1 + 1 < w1.heap.size := HD1.lt
  have y1 : g < w1.heap.size := hB1.lt
  clear hb1 hc1 hf1 hz1
  have hg : w.heap.size + 1 + 1 < g := by omega
  have d1_0 := HD1.frozen 0
  have e1_0 : w1.cell? ⟨w.heap.size + 1 + 1, 0, none⟩ = some (.int .i64 0) := by rw [HD1.cell]; rfl
  have d1_1 := HD1.frozen 1
  have e1_1 : w1.cell? ⟨w.heap.size + 1 + 1, 1, none⟩ = some (.int .i64 0) := by rw [HD1.cell]; rfl
  have d1_2 := HD1.frozen 2
  have e1_2 : w1.cell? ⟨w.heap.size + 1 + 1, 2, none⟩ = some (.string ⟨#[]⟩) := by rw [HD1.cell]; rfl
  have d1_3 := HD1.frozen 3
  have e1_3 : w1.cell? ⟨w.heap.size + 1 + 1, 3, none⟩ = some (.slice none 0 0) := by rw [HD1.cell]; rfl
  have d1_4 := HD1.frozen 4
  have e1_4 : w1.cell? ⟨w.heap.size + 1 + 1, 4, none⟩ = some (.int .i64 0) := by rw [HD1.cell]; rfl
  have d1_5 := HD1.frozen 5
  have e1_5 : w1.cell? ⟨w.heap.size + 1 + 1, 5, none⟩ = some (.int .i64 0) := by rw [HD1.cell]; rfl
  have d1_6 := HD1.frozen 6
  have e1_6 : w1.cell? ⟨w.heap.size + 1 + 1, 6, none⟩ = some (.int .i64 0) := by rw [HD1.cell]; rfl
  have r1_7 : w1.cell? ⟨w.heap.size, 7, none⟩ = some (.int .i64 R.ad) := by rw [HR1.cell]; rfl
  have r1_8 : w1.cell? ⟨w.heap.size, 8, none⟩ = some (.int .i64 R.at_) := by rw [HR1.cell]; rfl
  go_wp2_with fail
  go_at_call 30; refine (toFigure_c _ _ _).mono ?_; rintro e w2 ⟨rfl, hb2⟩; obtain ⟨hc2, hf2, hz2⟩ := bel hb2; (try simp only [World.size_drew, World.cell?_drew, World.frozen?_drew] at hc2 hf2 hz2); (try simp only [World.heap_drewN, World.cell?_drewN, World.frozen?_drewN] at hc2 hf2 hz2); (try have hl2 : w.heap.size < w2.heap.size := by (have hq := hb2.size; (try simp at hq); omega)); (try have hm2 : w.heap.size + 1 < w2.heap.size := by (have hq := hb2.size; (try simp at hq); omega)); (try have hn2 : w.heap.size + 1 + 1 < w2.heap.size := by (have hq := hb2.size; (try simp at hq); omega)); (try have hp2 : b < w2.heap.size := by (have hq := hb2.size; (try simp at hq); omega)); (try have ho2 : b' < w2.heap.size := by (have hq := hb2.size; (try simp at hq); omega))
  have HR2 : Blk w2 w.heap.size 52 #[.int .i64 R.ch.dg, .int .i64 R.ch.tn, .string R.ch.nm, .slice A R.ch.zs.length c, .int .i64 R.ch.wd, .int .i64 R.ch.lf, .int .i64 R.ch.rt, .int .i64 R.ad, .int .i64 R.at_, .int .i64 R.bd, .int .i64 R.bt, .int .i64 R.cd, .int .i64 R.ct, .int .i64 R.dd, .int .i64 R.dt, .int .i64 R.ey, .int .i64 R.bo] := Blk.step hb2 (by repeat (with_reducible first | exact HR1 | refine Blk.far _ (by first | (simp; done) | (simp; omega)) ?_))
  have HB2 : Blk w2 g 2 (icells R.ch.zs) := Blk.step hb2 (by repeat (with_reducible first | exact hB1 | refine Blk.far _ (by first | (simp; done) | (simp; omega)) ?_))
  have HS2 : Blk w2 (w.heap.size + 1) 55 #[.int .i64 0, .int .i64 0, .string ⟨#[]⟩, .slice none 0 0, .int .i64 0, .int .i64 0, .int .i64 0, .int .i64 0, .int .i64 0, .int .i64 0, .int .i64 0, .int .i64 0, .int .i64 0, .int .i64 0, .int .i64 0, .int .i64 0, .int .i64 0] := Blk.step hb2 (by repeat (with_reducible first | exact HS1 | refine Blk.far _ (by first | (simp; done) | (simp; omega)) ?_))
  have HD2 : Blk w2 (w.heap.size + 1 + 1) 55 #[.int .i64 R.ch.dg, .int .i64 R.ch.tn, .string R.ch.nm, .slice (some ⟨g, 0, none⟩) R.ch.zs.length R.ch.zs.length, .int .i64 R.ch.wd, .int .i64 R.ch.lf, .int .i64 R.ch.rt, .int .i64 0, .int .i64 0, .int .i64 0, .int .i64 0, .int .i64 0, .int .i64 0, .int .i64 0, .int .i64 0, .int .i64 0, .int .i64 0] := Blk.step hb2 (by simpa using (((((((HD1.set_ 0 (.int .i64 R.ch.dg)).set_ 1 (.int .i64 R.ch.tn)).set_ 2 (.string R.ch.nm)).set_ 3 (.slice (some ⟨g, 0, none⟩) R.ch.zs.length R.ch.zs.length)).set_ 4 (.int .i64 R.ch.wd)).set_ 5 (.int .i64 R.ch.lf)).set_ 6 (.int .i64 R.ch.rt)))
  have hbel2 : Below w.heap.size w w2 := by repeat (with_reducible first | exact Below.refl _ _ | assumption | refine Bel.alloc ?_ _ | refine Bel.step (by assumption) ?_ | refine Below.drew ?_ | refine Bel.drewN ?_ _ | refine Below.setCell ?_ (by first | exact Nat.le_refl _ | omega | (simp; done) | (simp; omega)) _)
  have z2 : w.heap.size + 1 + 1 < w2.heap.size := HD2.lt
  clear hb2 hc2 hf2 hz2 HR1 HD1 HS1 hB1
  clear d1_0 e1_0 d1_1 e1_1 d1_2 e1_2 d1_3 e1_3 d1_4 e1_4 d1_5 e1_5 d1_6 e1_6 r1_7 r1_8
  have d2_7 := HD2.frozen 7
  have e2_7 : w2.cell? ⟨w.heap.size + 1 + 1, 7, none⟩ = some (.int .i64 0) := by rw [HD2.cell]; rfl
  have d2_8 := HD2.frozen 8
  have e2_8 : w2.cell? ⟨w.heap.size + 1 + 1, 8, none⟩ = some (.int .i64 0) := by rw [HD2.cell]; rfl
  have r2_9 : w2.cell? ⟨w.heap.size, 9, none⟩ = some (.int .i64 R.bd) := by rw [HR2.cell]; rfl
  have r2_10 : w2.cell? ⟨w.heap.size, 10, none⟩ = some (.int .i64 R.bt) := by rw [HR2.cell]; rfl
  go_wp2_with fail
  go_at_call 30; refine (toFigure_c _ _ _).mono ?_; rintro e w3 ⟨rfl, hb3⟩; obtain ⟨hc3, hf3, hz3⟩ := bel hb3; (try simp only [World.size_drew, World.cell?_drew, World.frozen?_drew] at hc3 hf3 hz3); (try simp only [World.heap_drewN, World.cell?_drewN, World.frozen?_drewN] at hc3 hf3 hz3); (try have hl3 : w.heap.size < w3.heap.size := by (have hq := hb3.size; (try simp at hq); omega)); (try have hm3 : w.heap.size + 1 < w3.heap.size := by (have hq := hb3.size; (try simp at hq); omega)); (try have hn3 : w.heap.size + 1 + 1 < w3.heap.size := by (have hq := hb3.size; (try simp at hq); omega)); (try have hp3 : b < w3.heap.size := by (have hq := hb3.size; (try simp at hq); omega)); (try have ho3 : b' < w3.heap.size := by (have hq := hb3.size; (try simp at hq); omega))
  have HR3 : Blk w3 w.heap.size 52 #[.int .i64 R.ch.dg, .int .i64 R.ch.tn, .string R.ch.nm, .slice A R.ch.zs.length c, .int .i64 R.ch.wd, .int .i64 R.ch.lf, .int .i64 R.ch.rt, .int .i64 R.ad, .int .i64 R.at_, .int .i64 R.bd, .int .i64 R.bt, .int .i64 R.cd, .int .i64 R.ct, .int .i64 R.dd, .int .i64 R.dt, .int .i64 R.ey, .int .i64 R.bo] := Blk.step hb3 (by repeat (with_reducible first | exact HR2 | refine Blk.far _ (by first | (simp; done) | (simp; omega)) ?_))
  have HB3 : Blk w3 g 2 (icells R.ch.zs) := Blk.step hb3 (by repeat (with_reducible first | exact HB2 | refine Blk.far _ (by first | (simp; done) | (simp; omega)) ?_))
  have HS3 : Blk w3 (w.heap.size + 1) 55 #[.int .i64 0, .int .i64 0, .string ⟨#[]⟩, .slice none 0 0, .int .i64 0, .int .i64 0, .int .i64 0, .int .i64 0, .int .i64 0, .int .i64 0, .int .i64 0, .int .i64 0, .int .i64 0, .int .i64 0, .int .i64 0, .int .i64 0, .int .i64 0] := Blk.step hb3 (by repeat (with_reducible first | exact HS2 | refine Blk.far _ (by first | (simp; done) | (simp; omega)) ?_))
  have HD3 : Blk w3 (w.heap.size + 1 + 1) 55 #[.int .i64 R.ch.dg, .int .i64 R.ch.tn, .string R.ch.nm, .slice (some ⟨g, 0, none⟩) R.ch.zs.length R.ch.zs.length, .int .i64 R.ch.wd, .int .i64 R.ch.lf, .int .i64 R.ch.rt, .int .i64 R.ad, .int .i64 R.at_, .int .i64 0, .int .i64 0, .int .i64 0, .int .i64 0, .int .i64 0, .int .i64 0, .int .i64 0, .int .i64 0] := Blk.step hb3 (by simpa using ((HD2.set_ 7 (.int .i64 R.ad)).set_ 8 (.int .i64 R.at_)))
  have hbel3 : Below w.heap.size w w3 := by repeat (with_reducible first | exact Below.refl _ _ | assumption | refine Bel.alloc ?_ _ | refine Bel.step (by assumption) ?_ | refine Below.drew ?_ | refine Bel.drewN ?_ _ | refine Below.setCell ?_ (by first | exact Nat.le_refl _ | omega | (simp; done) | (simp; omega)) _)
  have z3 : w.heap.size + 1 + 1 < w3.heap.size := HD3.lt
  clear hb3 hc3 hf3 hz3 HR2 HD2 HS2 HB2
  clear d2_7 e2_7 d2_8 e2_8 r2_9 r2_10
  have d3_9 := HD3.frozen 9
  have e3_9 : w3.cell? ⟨w.heap.size + 1 + 1, 9, none⟩ = some (.int .i64 0) := by rw [HD3.cell]; rfl
  have d3_10 := HD3.frozen 10
  have e3_10 : w3.cell? ⟨w.heap.size + 1 + 1, 10, none⟩ = some (.int .i64 0) := by rw [HD3.cell]; rfl
  have r3_11 : w3.cell? ⟨w.heap.size, 11, none⟩ = some (.int .i64 R.cd) := by rw [HR3.cell]; rfl
  have r3_12 : w3.cell? ⟨w.heap.size, 12, none⟩ = some (.int .i64 R.ct) := by rw [HR3.cell]; rfl
  go_wp2_with fail
  go_at_call 30; refine (toFigure_c _ _ _).mono ?_; rintro e w4 ⟨rfl, hb4⟩; obtain ⟨hc4, hf4, hz4⟩ := bel hb4; (try simp only [World.size_drew, World.cell?_drew, World.frozen?_drew] at hc4 hf4 hz4); (try simp only [World.heap_drewN, World.cell?_drewN, World.frozen?_drewN] at hc4 hf4 hz4); (try have hl4 : w.heap.size < w4.heap.size := by (have hq := hb4.size; (try simp at hq); omega)); (try have hm4 : w.heap.size + 1 < w4.heap.size := by (have hq := hb4.size; (try simp at hq); omega)); (try have hn4 : w.heap.size + 1 + 1 < w4.heap.size := by (have hq := hb4.size; (try simp at hq); omega)); (try have hp4 : b < w4.heap.size := by (have hq := hb4.size; (try simp at hq); omega)); (try have ho4 : b' < w4.heap.size := by (have hq := hb4.size; (try simp at hq); omega))
  have HR4 : Blk w4 w.heap.size 52 #[.int .i64 R.ch.dg, .int .i64 R.ch.tn, .string R.ch.nm, .slice A R.ch.zs.length c, .int .i64 R.ch.wd, .int .i64 R.ch.lf, .int .i64 R.ch.rt, .int .i64 R.ad, .int .i64 R.at_, .int .i64 R.bd, .int .i64 R.bt, .int .i64 R.cd, .int .i64 R.ct, .int .i64 R.dd, .int .i64 R.dt, .int .i64 R.ey, .int .i64 R.bo] := Blk.step hb4 (by repeat (with_reducible first | exact HR3 | refine Blk.far _ (by first | (simp; done) | (simp; omega)) ?_))
  have HB4 : Blk w4 g 2 (icells R.ch.zs) := Blk.step hb4 (by repeat (with_reducible first | exact HB3 | refine Blk.far _ (by first | (simp; done) | (simp; omega)) ?_))
  have HS4 : Blk w4 (w.heap.size + 1) 55 #[.int .i64 0, .int .i64 0, .string ⟨#[]⟩, .slice none 0 0, .int .i64 0, .int .i64 0, .int .i64 0, .int .i64 0, .int .i64 0, .int .i64 0, .int .i64 0, .int .i64 0, .int .i64 0, .int .i64 0, .int .i64 0, .int .i64 0, .int .i64 0] := Blk.step hb4 (by repeat (with_reducible first | exact HS3 | refine Blk.far _ (by first | (simp; done) | (simp; omega)) ?_))
  have HD4 : Blk w4 (w.heap.size + 1 + 1) 55 #[.int .i64 R.ch.dg, .int .i64 R.ch.tn, .string R.ch.nm, .slice (some ⟨g, 0, none⟩) R.ch.zs.length R.ch.zs.length, .int .i64 R.ch.wd, .int .i64 R.ch.lf, .int .i64 R.ch.rt, .int .i64 R.ad, .int .i64 R.at_, .int .i64 R.bd, .int .i64 R.bt, .int .i64 0, .int .i64 0, .int .i64 0, .int .i64 0, .int .i64 0, .int .i64 0] := Blk.step hb4 (by simpa using ((HD3.set_ 9 (.int .i64 R.bd)).set_ 10 (.int .i64 R.bt)))
  have hbel4 : Below w.heap.size w w4 := by repeat (with_reducible first | exact Below.refl _ _ | assumption | refine Bel.alloc ?_ _ | refine Bel.step (by assumption) ?_ | refine Below.drew ?_ | refine Bel.drewN ?_ _ | refine Below.setCell ?_ (by first | exact Nat.le_refl _ | omega | (simp; done) | (simp; omega)) _)
  have z4 : w.heap.size + 1 + 1 < w4.heap.size := HD4.lt
  clear hb4 hc4 hf4 hz4 HR3 HD3 HS3 HB3
  clear d3_9 e3_9 d3_10 e3_10 r3_11 r3_12
  have d4_11 := HD4.frozen 11
  have e4_11 : w4.cell? ⟨w.heap.size + 1 + 1, 11, none⟩ = some (.int .i64 0) := by rw [HD4.cell]; rfl
  have d4_12 := HD4.frozen 12
  have e4_12 : w4.cell? ⟨w.heap.size + 1 + 1, 12, none⟩ = some (.int .i64 0) := by rw [HD4.cell]; rfl
  have r4_13 : w4.cell? ⟨w.heap.size, 13, none⟩ = some (.int .i64 R.dd) := by rw [HR4.cell]; rfl
  have r4_14 : w4.cell? ⟨w.heap.size, 14, none⟩ = some (.int .i64 R.dt) := by rw [HR4.cell]; rfl
  go_wp2_with fail
  go_at_call 30; refine (toFigure_c _ _ _).mono ?_; rintro e w5 ⟨rfl, hb5⟩; obtain ⟨hc5, hf5, hz5⟩ := bel hb5; (try simp only [World.size_drew, World.cell?_drew, World.frozen?_drew] at hc5 hf5 hz5); (try simp only [World.heap_drewN, World.cell?_drewN, World.frozen?_drewN] at hc5 hf5 hz5); (try have hl5 : w.heap.size < w5.heap.size := by (have hq := hb5.size; (try simp at hq); omega)); (try have hm5 : w.heap.size + 1 < w5.heap.size := by (have hq := hb5.size; (try simp at hq); omega)); (try have hn5 : w.heap.size + 1 + 1 < w5.heap.size := by (have hq := hb5.size; (try simp at hq); omega)); (try have hp5 : b < w5.heap.size := by (have hq := hb5.size; (try simp at hq); omega)); (try have ho5 : b' < w5.heap.size := by (have hq := hb5.size; (try simp at hq); omega))
  have HR5 : Blk w5 w.heap.size 52 #[.int .i64 R.ch.dg, .int .i64 R.ch.tn, .string R.ch.nm, .slice A R.ch.zs.length c, .int .i64 R.ch.wd, .int .i64 R.ch.lf, .int .i64 R.ch.rt, .int .i64 R.ad, .int .i64 R.at_, .int .i64 R.bd, .int .i64 R.bt, .int .i64 R.cd, .int .i64 R.ct, .int .i64 R.dd, .int .i64 R.dt, .int .i64 R.ey, .int .i64 R.bo] := Blk.step hb5 (by repeat (with_reducible first | exact HR4 | refine Blk.far _ (by first | (simp; done) | (simp; omega)) ?_))
  have HB5 : Blk w5 g 2 (icells R.ch.zs) := Blk.step hb5 (by repeat (with_reducible first | exact HB4 | refine Blk.far _ (by first | (simp; done) | (simp; omega)) ?_))
  have HS5 : Blk w5 (w.heap.size + 1) 55 #[.int .i64 0, .int .i64 0, .string ⟨#[]⟩, .slice none 0 0, .int .i64 0, .int .i64 0, .int .i64 0, .int .i64 0, .int .i64 0, .int .i64 0, .int .i64 0, .int .i64 0, .int .i64 0, .int .i64 0, .int .i64 0, .int .i64 0, .int .i64 0] := Blk.step hb5 (by repeat (with_reducible first | exact HS4 | refine Blk.far _ (by first | (simp; done) | (simp; omega)) ?_))
  have HD5 : Blk w5 (w.heap.size + 1 + 1) 55 #[.int .i64 R.ch.dg, .int .i64 R.ch.tn, .string R.ch.nm, .slice (some ⟨g, 0, none⟩) R.ch.zs.length R.ch.zs.length, .int .i64 R.ch.wd, .int .i64 R.ch.lf, .int .i64 R.ch.rt, .int .i64 R.ad, .int .i64 R.at_, .int .i64 R.bd, .int .i64 R.bt, .int .i64 R.cd, .int .i64 R.ct, .int .i64 0, .int .i64 0, .int .i64 0, .int .i64 0] := Blk.step hb5 (by simpa using ((HD4.set_ 11 (.int .i64 R.cd)).set_ 12 (.int .i64 R.ct)))
  have hbel5 : Below w.heap.size w w5 := by repeat (with_reducible first | exact Below.refl _ _ | assumption | refine Bel.alloc ?_ _ | refine Bel.step (by assumption) ?_ | refine Below.drew ?_ | refine Bel.drewN ?_ _ | refine Below.setCell ?_ (by first | exact Nat.le_refl _ | omega | (simp; done) | (simp; omega)) _)
  have z5 : w.heap.size + 1 + 1 < w5.heap.size := HD5.lt
  clear hb5 hc5 hf5 hz5 HR4 HD4 HS4 HB4
  clear d4_11 e4_11 d4_12 e4_12 r4_13 r4_14
  have e13 : w5.cell? ⟨w.heap.size + 1 + 1, 13, none⟩ = some (.int .i64 0) := by rw [HD5.cell]; rfl
  have d13 := HD5.frozen 13
  have e14 : w5.cell? ⟨w.heap.size + 1 + 1, 14, none⟩ = some (.int .i64 0) := by rw [HD5.cell]; rfl
  have d14 := HD5.frozen 14
  have e15 : w5.cell? ⟨w.heap.size + 1 + 1, 15, none⟩ = some (.int .i64 0) := by rw [HD5.cell]; rfl
  have d15 := HD5.frozen 15
  have e16 : w5.cell? ⟨w.heap.size + 1 + 1, 16, none⟩ = some (.int .i64 0) := by rw [HD5.cell]; rfl
  have d16 := HD5.frozen 16
  have r15 : w5.cell? ⟨w.heap.size, 15, none⟩ = some (.int .i64 R.ey) := by rw [HR5.cell]; rfl
  have r16 : w5.cell? ⟨w.heap.size, 16, none⟩ = some (.int .i64 R.bo) := by rw [HR5.cell]; rfl
  have HD6 : Blk ((((w5.setCell ⟨w.heap.size + 1 + 1, 13, none⟩ (.int .i64 R.dd)).setCell ⟨w.heap.size + 1 + 1, 14, none⟩ (.int .i64 R.dt)).setCell ⟨w.heap.size + 1 + 1, 15, none⟩ (.int .i64 R.ey)).setCell ⟨w.heap.size + 1 + 1, 16, none⟩ (.int .i64 R.bo)) (w.heap.size + 1 + 1) 55 #[.int .i64 R.ch.dg, .int .i64 R.ch.tn, .string R.ch.nm, .slice (some ⟨g, 0, none⟩) R.ch.zs.length R.ch.zs.length, .int .i64 R.ch.wd, .int .i64 R.ch.lf, .int .i64 R.ch.rt, .int .i64 R.ad, .int .i64 R.at_, .int .i64 R.bd, .int .i64 R.bt, .int .i64 R.cd, .int .i64 R.ct, .int .i64 R.dd, .int .i64 R.dt, .int .i64 R.ey, .int .i64 R.bo] := by simpa using ((((HD5.set_ 13 (.int .i64 R.dd)).set_ 14 (.int .i64 R.dt)).set_ 15 (.int .i64 R.ey)).set_ 16 (.int .i64 R.bo))
  have HS6 : Blk ((((w5.setCell ⟨w.heap.size + 1 + 1, 13, none⟩ (.int .i64 R.dd)).setCell ⟨w.heap.size + 1 + 1, 14, none⟩ (.int .i64 R.dt)).setCell ⟨w.heap.size + 1 + 1, 15, none⟩ (.int .i64 R.ey)).setCell ⟨w.heap.size + 1 + 1, 16, none⟩ (.int .i64 R.bo)) (w.heap.size + 1) 55 #[.int .i64 0, .int .i64 0, .string ⟨#[]⟩, .slice none 0 0, .int .i64 0, .int .i64 0, .int .i64 0, .int .i64 0, .int .i64 0, .int .i64 0, .int .i64 0, .int .i64 0, .int .i64 0, .int .i64 0, .int .i64 0, .int .i64 0, .int .i64 0] := (by repeat (with_reducible first | exact HS5 | refine Blk.far _ (by first | (simp; done) | (simp; omega)) ?_))
  have HG6 : Blk ((((w5.setCell ⟨w.heap.size + 1 + 1, 13, none⟩ (.int .i64 R.dd)).setCell ⟨w.heap.size + 1 + 1, 14, none⟩ (.int .i64 R.dt)).setCell ⟨w.heap.size + 1 + 1, 15, none⟩ (.int .i64 R.ey)).setCell ⟨w.heap.size + 1 + 1, 16, none⟩ (.int .i64 R.bo)) g 2 (icells R.ch.zs) := (by repeat (with_reducible first | exact HB5 | refine Blk.far _ (by first | (simp; done) | (simp; omega)) ?_))
  have hbel6 : Below w.heap.size w ((((w5.setCell ⟨w.heap.size + 1 + 1, 13, none⟩ (.int .i64 R.dd)).setCell ⟨w.heap.size + 1 + 1, 14, none⟩ (.int .i64 R.dt)).setCell ⟨w.heap.size + 1 + 1, 15, none⟩ (.int .i64 R.ey)).setCell ⟨w.heap.size + 1 + 1, 16, none⟩ (.int .i64 R.bo)) := by repeat (with_reducible first | exact Below.refl _ _ | assumption | refine Bel.alloc ?_ _ | refine Bel.step (by assumption) ?_ | refine Below.drew ?_ | refine Bel.drewN ?_ _ | refine Below.setCell ?_ (by first | exact Nat.le_refl _ | omega | (simp; done) | (simp; omega)) _)
  clear HR5 HS5 HD5 HB5
  go_upto_region 9 with (fail)
  generalize ((((w5.setCell ⟨w.heap.size + 1 + 1, 13, none⟩ (.int .i64 R.dd)).setCell ⟨w.heap.size + 1 + 1, 14, none⟩ (.int .i64 R.dt)).setCell ⟨w.heap.size + 1 + 1, 15, none⟩ (.int .i64 R.ey)).setCell ⟨w.heap.size + 1 + 1, 16, none⟩ (.int .i64 R.bo)) = W at HD6 HS6 HG6 hbel6 ⊢
  apply wp_region_lit
  refine wpList_load_blk 55 _ _ HD6 Try.underlying55 (by kernel_rfl) rfl rfl rfl ?_
  refine wpList_store_blk (cs := #[.int .i64 R.ch.dg, .int .i64 R.ch.tn, .string R.ch.nm, .slice (some ⟨g, 0, none⟩) R.ch.zs.length R.ch.zs.length, .int .i64 R.ch.wd, .int .i64 R.ch.lf, .int .i64 R.ch.rt, .int .i64 R.ad, .int .i64 R.at_, .int .i64 R.bd, .int .i64 R.bt, .int .i64 R.cd, .int .i64 R.ct, .int .i64 R.dd, .int .i64 R.dt, .int .i64 R.ey, .int .i64 R.bo]) 55 _ _ _ HS6 (by kernel_rfl) rfl (by simp [Value.oneCell']) rfl rfl rfl rfl ?_
  have HG7 := Lib.hid (Blk.setRow_far #[.int .i64 R.ch.dg, .int .i64 R.ch.tn, .string R.ch.nm, .slice (some ⟨g, 0, none⟩) R.ch.zs.length R.ch.zs.length, .int .i64 R.ch.wd, .int .i64 R.ch.lf, .int .i64 R.ch.rt, .int .i64 R.ad, .int .i64 R.at_, .int .i64 R.bd, .int .i64 R.bt, .int .i64 R.cd, .int .i64 R.ct, .int .i64 R.dd, .int .i64 R.dt, .int .i64 R.ey, .int .i64 R.bo] (show g ≠ w.heap.size + 1 by omega) HG6)
  have HS7 := Lib.hid (Blk.setRow #[.int .i64 R.ch.dg, .int .i64 R.ch.tn, .string R.ch.nm, .slice (some ⟨g, 0, none⟩) R.ch.zs.length R.ch.zs.length, .int .i64 R.ch.wd, .int .i64 R.ch.lf, .int .i64 R.ch.rt, .int .i64 R.ad, .int .i64 R.at_, .int .i64 R.bd, .int .i64 R.bt, .int .i64 R.cd, .int .i64 R.ct, .int .i64 R.dd, .int .i64 R.dt, .int .i64 R.ey, .int .i64 R.bo] HS6)
  have hbel7 := Bel.setRow hbel6 (show w.heap.size ≤ w.heap.size + 1 by omega) #[.int .i64 R.ch.dg, .int .i64 R.ch.tn, .string R.ch.nm, .slice (some ⟨g, 0, none⟩) R.ch.zs.length R.ch.zs.length, .int .i64 R.ch.wd, .int .i64 R.ch.lf, .int .i64 R.ch.rt, .int .i64 R.ad, .int .i64 R.at_, .int .i64 R.bd, .int .i64 R.bt, .int .i64 R.cd, .int .i64 R.ct, .int .i64 R.dd, .int .i64 R.dt, .int .i64 R.ey, .int .i64 R.bo]
  generalize W.setRow (w.heap.size + 1) #[.int .i64 R.ch.dg, .int .i64 R.ch.tn, .string R.ch.nm, .slice (some ⟨g, 0, none⟩) R.ch.zs.length R.ch.zs.length, .int .i64 R.ch.wd, .int .i64 R.ch.lf, .int .i64 R.ch.rt, .int .i64 R.ad, .int .i64 R.at_, .int .i64 R.bd, .int .i64 R.bt, .int .i64 R.cd, .int .i64 R.ct, .int .i64 R.dd, .int .i64 R.dt, .int .i64 R.ey, .int .i64 R.bo] = V at HG7 HS7 hbel7 ⊢
  clear HD6 HS6 HG6 hbel6
  go_wp2_with fail
  exact bodyPost_ret (v := .agg #[.int .i64 R.ch.dg, .int .i64 R.ch.tn, .string R.ch.nm, .slice (some ⟨g, 0, none⟩) R.ch.zs.length R.ch.zs.length, .int .i64 R.ch.wd, .int .i64 R.ch.lf, .int .i64 R.ch.rt, .int .i64 R.ad, .int .i64 R.at_, .int .i64 R.bd, .int .i64 R.bt, .int .i64 R.cd, .int .i64 R.ct, .int .i64 R.dd, .int .i64 R.dt, .int .i64 R.ey, .int .i64 R.bo]) (results_blk HS7.out Try.underlying55 (by kernel_rfl) rfl rfl) rfl ⟨g, rfl, by omega, HG7.out, hbel7⟩
set_option maxHeartbeats 2000000 in
theorem eqRelease_c (R : Re) (A B : Option Addr) (c d : Nat) (hn : R.ch.zs.length ≤ 1048576) (w : World) (hA : Ints w A R.ch.zs) (hB : Ints w B R.ch.zs) :
    Calls Try.prog 32 #[.agg #[.int .i64 R.ch.dg, .int .i64 R.ch.tn, .string R.ch.nm, .slice A R.ch.zs.length c, .int .i64 R.ch.wd, .int .i64 R.ch.lf, .int .i64 R.ch.rt, .int .i64 R.ad, .int .i64 R.at_, .int .i64 R.bd, .int .i64 R.bt, .int .i64 R.cd, .int .i64 R.ct, .int .i64 R.dd, .int .i64 R.dt, .int .i64 R.ey, .int .i64 R.bo], .agg #[.int .i64 R.ch.dg, .int .i64 R.ch.tn, .string R.ch.nm, .slice B R.ch.zs.length d, .int .i64 R.ch.wd, .int .i64 R.ch.lf, .int .i64 R.ch.rt, .int .i64 R.ad, .int .i64 R.at_, .int .i64 R.bd, .int .i64 R.bt, .int .i64 R.cd, .int .i64 R.ct, .int .i64 R.dd, .int .i64 R.dt, .int .i64 R.ey, .int .i64 R.bo]] w fun e w' => e = .returned (.bool true) ∧ Below w.heap.size w w' := by
  have HI := Lib.hid hA
  have HJ := Lib.hid hB
  clear hA hB
  go_enter Try.func32, Try.ntmps32
  go_wp2_with fail
  go_at_call 19; refine (eqChart_c _ _ _ _ _ hn _ (by repeat (with_reducible first | exact HI.out | assumption | refine Ints.drew ?_ | refine Ints.drewN _ ?_ | refine Ints.alloc _ ?_ | refine Ints.step (by assumption) ?_)) (by repeat (with_reducible first | exact HJ.out | assumption | refine Ints.drew ?_ | refine Ints.drewN _ ?_ | refine Ints.alloc _ ?_ | refine Ints.step (by assumption) ?_))).mono ?_; rintro e w1 ⟨rfl, hb1⟩; obtain ⟨hc1, hf1, hz1⟩ := bel hb1; (try simp only [World.size_drew, World.cell?_drew, World.frozen?_drew] at hc1 hf1 hz1); (try simp only [World.heap_drewN, World.cell?_drewN, World.frozen?_drewN] at hc1 hf1 hz1); (try have hl1 : w.heap.size < w1.heap.size := by (have hq := hb1.size; (try simp at hq); omega)); (try have hm1 : w.heap.size + 1 < w1.heap.size := by (have hq := hb1.size; (try simp at hq); omega)); (try have hn1 : w.heap.size + 1 + 1 < w1.heap.size := by (have hq := hb1.size; (try simp at hq); omega)); (try have hp1 : b < w1.heap.size := by (have hq := hb1.size; (try simp at hq); omega)); (try have ho1 : b' < w1.heap.size := by (have hq := hb1.size; (try simp at hq); omega))
  have hbel1 : Below w.heap.size w w1 := by repeat (with_reducible first | exact Below.refl _ _ | assumption | refine Bel.alloc ?_ _ | refine Bel.step (by assumption) ?_ | refine Below.drew ?_ | refine Bel.drewN ?_ _ | refine Below.setCell ?_ (by first | exact Nat.le_refl _ | omega | (simp; done) | (simp; omega)) _)
  have HA1 : Blk w1 w.heap.size 55 #[.int .i64 R.ch.dg, .int .i64 R.ch.tn, .string R.ch.nm, .slice A R.ch.zs.length c, .int .i64 R.ch.wd, .int .i64 R.ch.lf, .int .i64 R.ch.rt, .int .i64 R.ad, .int .i64 R.at_, .int .i64 R.bd, .int .i64 R.bt, .int .i64 R.cd, .int .i64 R.ct, .int .i64 R.dd, .int .i64 R.dt, .int .i64 R.ey, .int .i64 R.bo] := Blk.step hb1 (Blk.alloc _ (Blk.new _ _ _))
  have HB1 : Blk w1 (w.heap.size + 1) 55 #[.int .i64 R.ch.dg, .int .i64 R.ch.tn, .string R.ch.nm, .slice B R.ch.zs.length d, .int .i64 R.ch.wd, .int .i64 R.ch.lf, .int .i64 R.ch.rt, .int .i64 R.ad, .int .i64 R.at_, .int .i64 R.bd, .int .i64 R.bt, .int .i64 R.cd, .int .i64 R.ct, .int .i64 R.dd, .int .i64 R.dt, .int .i64 R.ey, .int .i64 R.bo] := Blk.step hb1 (by have := Blk.new (w.alloc (.cells #[.int .i64 R.ch.dg, .int .i64 R.ch.tn, .string R.ch.nm, .slice A R.ch.zs.length c, .int .i64 R.ch.wd, .int .i64 R.ch.lf, .int .i64 R.ch.rt, .int .i64 R.ad, .int .i64 R.at_, .int .i64 R.bd, .int .i64 R.bt, .int .i64 R.cd, .int .i64 R.ct, .int .i64 R.dd, .int .i64 R.dt, .int .i64 R.ey, .int .i64 R.bo] 55)) 55 #[.int .i64 R.ch.dg, .int .i64 R.ch.tn, .string R.ch.nm, .slice B R.ch.zs.length d, .int .i64 R.ch.wd, .int .i64 R.ch.lf, .int .i64 R.ch.rt, .int .i64 R.ad, .int .i64 R.at_, .int .i64 R.bd, .int .i64 R.bt, .int .i64 R.cd, .int .i64 R.ct, .int .i64 R.dd, .int .i64 R.dt, .int .i64 R.ey, .int .i64 R.bo]; simpa using this)
  clear hb1 hc1 hf1 hz1
  have p0 : w1.cell? ⟨w.heap.size, 0, none⟩ = some (.int .i64 R.ch.dg) := by rw [HA1.cell]; rfl
  have p1 : w1.cell? ⟨w.heap.size, 1, none⟩ = some (.int .i64 R.ch.tn) := by rw [HA1.cell]; rfl
  have p2 : w1.cell? ⟨w.heap.size, 2, none⟩ = some (.string R.ch.nm) := by rw [HA1.cell]; rfl
  have p3 : w1.cell? ⟨w.heap.size, 3, none⟩ = some (.slice A R.ch.zs.length c) := by rw [HA1.cell]; rfl
  have p4 : w1.cell? ⟨w.heap.size, 4, none⟩ = some (.int .i64 R.ch.wd) := by rw [HA1.cell]; rfl
  have p5 : w1.cell? ⟨w.heap.size, 5, none⟩ = some (.int .i64 R.ch.lf) := by rw [HA1.cell]; rfl
  have p6 : w1.cell? ⟨w.heap.size, 6, none⟩ = some (.int .i64 R.ch.rt) := by rw [HA1.cell]; rfl
  have p7 : w1.cell? ⟨w.heap.size, 7, none⟩ = some (.int .i64 R.ad) := by rw [HA1.cell]; rfl
  have p8 : w1.cell? ⟨w.heap.size, 8, none⟩ = some (.int .i64 R.at_) := by rw [HA1.cell]; rfl
  have p9 : w1.cell? ⟨w.heap.size, 9, none⟩ = some (.int .i64 R.bd) := by rw [HA1.cell]; rfl
  have p10 : w1.cell? ⟨w.heap.size, 10, none⟩ = some (.int .i64 R.bt) := by rw [HA1.cell]; rfl
  have p11 : w1.cell? ⟨w.heap.size, 11, none⟩ = some (.int .i64 R.cd) := by rw [HA1.cell]; rfl
  have p12 : w1.cell? ⟨w.heap.size, 12, none⟩ = some (.int .i64 R.ct) := by rw [HA1.cell]; rfl
  have p13 : w1.cell? ⟨w.heap.size, 13, none⟩ = some (.int .i64 R.dd) := by rw [HA1.cell]; rfl
  have p14 : w1.cell? ⟨w.heap.size, 14, none⟩ = some (.int .i64 R.dt) := by rw [HA1.cell]; rfl
  have p15 : w1.cell? ⟨w.heap.size, 15, none⟩ = some (.int .i64 R.ey) := by rw [HA1.cell]; rfl
  have p16 : w1.cell? ⟨w.heap.size, 16, none⟩ = some (.int .i64 R.bo) := by rw [HA1.cell]; rfl
  have q0 : w1.cell? ⟨w.heap.size + 1, 0, none⟩ = some (.int .i64 R.ch.dg) := by rw [HB1.cell]; rfl
  have q1 : w1.cell? ⟨w.heap.size + 1, 1, none⟩ = some (.int .i64 R.ch.tn) := by rw [HB1.cell]; rfl
  have q2 : w1.cell? ⟨w.heap.size + 1, 2, none⟩ = some (.string R.ch.nm) := by rw [HB1.cell]; rfl
  have q3 : w1.cell? ⟨w.heap.size + 1, 3, none⟩ = some (.slice B R.ch.zs.length d) := by rw [HB1.cell]; rfl
  have q4 : w1.cell? ⟨w.heap.size + 1, 4, none⟩ = some (.int .i64 R.ch.wd) := by rw [HB1.cell]; rfl
  have q5 : w1.cell? ⟨w.heap.size + 1, 5, none⟩ = some (.int .i64 R.ch.lf) := by rw [HB1.cell]; rfl
  have q6 : w1.cell? ⟨w.heap.size + 1, 6, none⟩ = some (.int .i64 R.ch.rt) := by rw [HB1.cell]; rfl
  have q7 : w1.cell? ⟨w.heap.size + 1, 7, none⟩ = some (.int .i64 R.ad) := by rw [HB1.cell]; rfl
  have q8 : w1.cell? ⟨w.heap.size + 1, 8, none⟩ = some (.int .i64 R.at_) := by rw [HB1.cell]; rfl
  have q9 : w1.cell? ⟨w.heap.size + 1, 9, none⟩ = some (.int .i64 R.bd) := by rw [HB1.cell]; rfl
  have q10 : w1.cell? ⟨w.heap.size + 1, 10, none⟩ = some (.int .i64 R.bt) := by rw [HB1.cell]; rfl
  have q11 : w1.cell? ⟨w.heap.size + 1, 11, none⟩ = some (.int .i64 R.cd) := by rw [HB1.cell]; rfl
  have q12 : w1.cell? ⟨w.heap.size + 1, 12, none⟩ = some (.int .i64 R.ct) := by rw [HB1.cell]; rfl
  have q13 : w1.cell? ⟨w.heap.size + 1, 13, none⟩ = some (.int .i64 R.dd) := by rw [HB1.cell]; rfl
  have q14 : w1.cell? ⟨w.heap.size + 1, 14, none⟩ = some (.int .i64 R.dt) := by rw [HB1.cell]; rfl
  have q15 : w1.cell? ⟨w.heap.size + 1, 15, none⟩ = some (.int .i64 R.ey) := by rw [HB1.cell]; rfl
  have q16 : w1.cell? ⟨w.heap.size + 1, 16, none⟩ = some (.int .i64 R.bo) := by rw [HB1.cell]; rfl
  go_wp2_with fail
  go_at_call 41; refine (eqFigure_c _ _ _ _ _).mono ?_; rintro e w2 ⟨rfl, hb2⟩; obtain ⟨hc2, hf2, hz2⟩ := bel hb2; (try simp only [World.size_drew, World.cell?_drew, World.frozen?_drew] at hc2 hf2 hz2); (try simp only [World.heap_drewN, World.cell?_drewN, World.frozen?_drewN] at hc2 hf2 hz2); (try have hl2 : w.heap.size < w2.heap.size := by (have hq := hb2.size; (try simp at hq); omega)); (try have hm2 : w.heap.size + 1 < w2.heap.size := by (have hq := hb2.size; (try simp at hq); omega)); (try have hn2 : w.heap.size + 1 + 1 < w2.heap.size := by (have hq := hb2.size; (try simp at hq); omega)); (try have hp2 : b < w2.heap.size := by (have hq := hb2.size; (try simp at hq); omega)); (try have ho2 : b' < w2.heap.size := by (have hq := hb2.size; (try simp at hq); omega))
  rw [eqP_self]
  have hbel2 : Below w.heap.size w w2 := by repeat (with_reducible first | exact Below.refl _ _ | assumption | refine Bel.alloc ?_ _ | refine Bel.step (by assumption) ?_ | refine Below.drew ?_ | refine Bel.drewN ?_ _ | refine Below.setCell ?_ (by first | exact Nat.le_refl _ | omega | (simp; done) | (simp; omega)) _)
  have HA2 := Blk.step hb2 HA1
  have HB2 := Blk.step hb2 HB1
  clear hb2 hc2 hf2 hz2 HA1 HB1 p0 p1 p2 p3 p4 p5 p6 p7 p8 p9 p10 p11 p12 p13 p14 p15 p16 q0 q1 q2 q3 q4 q5 q6 q7 q8 q9 q10 q11 q12 q13 q14 q15 q16
  have p0 : w2.cell? ⟨w.heap.size, 0, none⟩ = some (.int .i64 R.ch.dg) := by rw [HA2.cell]; rfl
  have p1 : w2.cell? ⟨w.heap.size, 1, none⟩ = some (.int .i64 R.ch.tn) := by rw [HA2.cell]; rfl
  have p2 : w2.cell? ⟨w.heap.size, 2, none⟩ = some (.string R.ch.nm) := by rw [HA2.cell]; rfl
  have p3 : w2.cell? ⟨w.heap.size, 3, none⟩ = some (.slice A R.ch.zs.length c) := by rw [HA2.cell]; rfl
  have p4 : w2.cell? ⟨w.heap.size, 4, none⟩ = some (.int .i64 R.ch.wd) := by rw [HA2.cell]; rfl
  have p5 : w2.cell? ⟨w.heap.size, 5, none⟩ = some (.int .i64 R.ch.lf) := by rw [HA2.cell]; rfl
  have p6 : w2.cell? ⟨w.heap.size, 6, none⟩ = some (.int .i64 R.ch.rt) := by rw [HA2.cell]; rfl
  have p7 : w2.cell? ⟨w.heap.size, 7, none⟩ = some (.int .i64 R.ad) := by rw [HA2.cell]; rfl
  have p8 : w2.cell? ⟨w.heap.size, 8, none⟩ = some (.int .i64 R.at_) := by rw [HA2.cell]; rfl
  have p9 : w2.cell? ⟨w.heap.size, 9, none⟩ = some (.int .i64 R.bd) := by rw [HA2.cell]; rfl
  have p10 : w2.cell? ⟨w.heap.size, 10, none⟩ = some (.int .i64 R.bt) := by rw [HA2.cell]; rfl
  have p11 : w2.cell? ⟨w.heap.size, 11, none⟩ = some (.int .i64 R.cd) := by rw [HA2.cell]; rfl
  have p12 : w2.cell? ⟨w.heap.size, 12, none⟩ = some (.int .i64 R.ct) := by rw [HA2.cell]; rfl
  have p13 : w2.cell? ⟨w.heap.size, 13, none⟩ = some (.int .i64 R.dd) := by rw [HA2.cell]; rfl
  have p14 : w2.cell? ⟨w.heap.size, 14, none⟩ = some (.int .i64 R.dt) := by rw [HA2.cell]; rfl
  have p15 : w2.cell? ⟨w.heap.size, 15, none⟩ = some (.int .i64 R.ey) := by rw [HA2.cell]; rfl
  have p16 : w2.cell? ⟨w.heap.size, 16, none⟩ = some (.int .i64 R.bo) := by rw [HA2.cell]; rfl
  have q0 : w2.cell? ⟨w.heap.size + 1, 0, none⟩ = some (.int .i64 R.ch.dg) := by rw [HB2.cell]; rfl
  have q1 : w2.cell? ⟨w.heap.size + 1, 1, none⟩ = some (.int .i64 R.ch.tn) := by rw [HB2.cell]; rfl
  have q2 : w2.cell? ⟨w.heap.size + 1, 2, none⟩ = some (.string R.ch.nm) := by rw [HB2.cell]; rfl
  have q3 : w2.cell? ⟨w.heap.size + 1, 3, none⟩ = some (.slice B R.ch.zs.length d) := by rw [HB2.cell]; rfl
  have q4 : w2.cell? ⟨w.heap.size + 1, 4, none⟩ = some (.int .i64 R.ch.wd) := by rw [HB2.cell]; rfl
  have q5 : w2.cell? ⟨w.heap.size + 1, 5, none⟩ = some (.int .i64 R.ch.lf) := by rw [HB2.cell]; rfl
  have q6 : w2.cell? ⟨w.heap.size + 1, 6, none⟩ = some (.int .i64 R.ch.rt) := by rw [HB2.cell]; rfl
  have q7 : w2.cell? ⟨w.heap.size + 1, 7, none⟩ = some (.int .i64 R.ad) := by rw [HB2.cell]; rfl
  have q8 : w2.cell? ⟨w.heap.size + 1, 8, none⟩ = some (.int .i64 R.at_) := by rw [HB2.cell]; rfl
  have q9 : w2.cell? ⟨w.heap.size + 1, 9, none⟩ = some (.int .i64 R.bd) := by rw [HB2.cell]; rfl
  have q10 : w2.cell? ⟨w.heap.size + 1, 10, none⟩ = some (.int .i64 R.bt) := by rw [HB2.cell]; rfl
  have q11 : w2.cell? ⟨w.heap.size + 1, 11, none⟩ = some (.int .i64 R.cd) := by rw [HB2.cell]; rfl
  have q12 : w2.cell? ⟨w.heap.size + 1, 12, none⟩ = some (.int .i64 R.ct) := by rw [HB2.cell]; rfl
  have q13 : w2.cell? ⟨w.heap.size + 1, 13, none⟩ = some (.int .i64 R.dd) := by rw [HB2.cell]; rfl
  have q14 : w2.cell? ⟨w.heap.size + 1, 14, none⟩ = some (.int .i64 R.dt) := by rw [HB2.cell]; rfl
  have q15 : w2.cell? ⟨w.heap.size + 1, 15, none⟩ = some (.int .i64 R.ey) := by rw [HB2.cell]; rfl
  have q16 : w2.cell? ⟨w.heap.size + 1, 16, none⟩ = some (.int .i64 R.bo) := by rw [HB2.cell]; rfl
  go_wp2_with fail
  go_at_call 41; refine (eqFigure_c _ _ _ _ _).mono ?_; rintro e w3 ⟨rfl, hb3⟩; obtain ⟨hc3, hf3, hz3⟩ := bel hb3; (try simp only [World.size_drew, World.cell?_drew, World.frozen?_drew] at hc3 hf3 hz3); (try simp only [World.heap_drewN, World.cell?_drewN, World.frozen?_drewN] at hc3 hf3 hz3); (try have hl3 : w.heap.size < w3.heap.size := by (have hq := hb3.size; (try simp at hq); omega)); (try have hm3 : w.heap.size + 1 < w3.heap.size := by (have hq := hb3.size; (try simp at hq); omega)); (try have hn3 : w.heap.size + 1 + 1 < w3.heap.size := by (have hq := hb3.size; (try simp at hq); omega)); (try have hp3 : b < w3.heap.size := by (have hq := hb3.size; (try simp at hq); omega)); (try have ho3 : b' < w3.heap.size := by (have hq := hb3.size; (try simp at hq); omega))
  rw [eqP_self]
  have hbel3 : Below w.heap.size w w3 := by repeat (with_reducible first | exact Below.refl _ _ | assumption | refine Bel.alloc ?_ _ | refine Bel.step (by assumption) ?_ | refine Below.drew ?_ | refine Bel.drewN ?_ _ | refine Below.setCell ?_ (by first | exact Nat.le_refl _ | omega | (simp; done) | (simp; omega)) _)
  have HA3 := Blk.step hb3 HA2
  have HB3 := Blk.step hb3 HB2
  clear hb3 hc3 hf3 hz3 HA2 HB2 p0 p1 p2 p3 p4 p5 p6 p7 p8 p9 p10 p11 p12 p13 p14 p15 p16 q0 q1 q2 q3 q4 q5 q6 q7 q8 q9 q10 q11 q12 q13 q14 q15 q16
  have p0 : w3.cell? ⟨w.heap.size, 0, none⟩ = some (.int .i64 R.ch.dg) := by rw [HA3.cell]; rfl
  have p1 : w3.cell? ⟨w.heap.size, 1, none⟩ = some (.int .i64 R.ch.tn) := by rw [HA3.cell]; rfl
  have p2 : w3.cell? ⟨w.heap.size, 2, none⟩ = some (.string R.ch.nm) := by rw [HA3.cell]; rfl
  have p3 : w3.cell? ⟨w.heap.size, 3, none⟩ = some (.slice A R.ch.zs.length c) := by rw [HA3.cell]; rfl
  have p4 : w3.cell? ⟨w.heap.size, 4, none⟩ = some (.int .i64 R.ch.wd) := by rw [HA3.cell]; rfl
  have p5 : w3.cell? ⟨w.heap.size, 5, none⟩ = some (.int .i64 R.ch.lf) := by rw [HA3.cell]; rfl
  have p6 : w3.cell? ⟨w.heap.size, 6, none⟩ = some (.int .i64 R.ch.rt) := by rw [HA3.cell]; rfl
  have p7 : w3.cell? ⟨w.heap.size, 7, none⟩ = some (.int .i64 R.ad) := by rw [HA3.cell]; rfl
  have p8 : w3.cell? ⟨w.heap.size, 8, none⟩ = some (.int .i64 R.at_) := by rw [HA3.cell]; rfl
  have p9 : w3.cell? ⟨w.heap.size, 9, none⟩ = some (.int .i64 R.bd) := by rw [HA3.cell]; rfl
  have p10 : w3.cell? ⟨w.heap.size, 10, none⟩ = some (.int .i64 R.bt) := by rw [HA3.cell]; rfl
  have p11 : w3.cell? ⟨w.heap.size, 11, none⟩ = some (.int .i64 R.cd) := by rw [HA3.cell]; rfl
  have p12 : w3.cell? ⟨w.heap.size, 12, none⟩ = some (.int .i64 R.ct) := by rw [HA3.cell]; rfl
  have p13 : w3.cell? ⟨w.heap.size, 13, none⟩ = some (.int .i64 R.dd) := by rw [HA3.cell]; rfl
  have p14 : w3.cell? ⟨w.heap.size, 14, none⟩ = some (.int .i64 R.dt) := by rw [HA3.cell]; rfl
  have p15 : w3.cell? ⟨w.heap.size, 15, none⟩ = some (.int .i64 R.ey) := by rw [HA3.cell]; rfl
  have p16 : w3.cell? ⟨w.heap.size, 16, none⟩ = some (.int .i64 R.bo) := by rw [HA3.cell]; rfl
  have q0 : w3.cell? ⟨w.heap.size + 1, 0, none⟩ = some (.int .i64 R.ch.dg) := by rw [HB3.cell]; rfl
  have q1 : w3.cell? ⟨w.heap.size + 1, 1, none⟩ = some (.int .i64 R.ch.tn) := by rw [HB3.cell]; rfl
  have q2 : w3.cell? ⟨w.heap.size + 1, 2, none⟩ = some (.string R.ch.nm) := by rw [HB3.cell]; rfl
  have q3 : w3.cell? ⟨w.heap.size + 1, 3, none⟩ = some (.slice B R.ch.zs.length d) := by rw [HB3.cell]; rfl
  have q4 : w3.cell? ⟨w.heap.size + 1, 4, none⟩ = some (.int .i64 R.ch.wd) := by rw [HB3.cell]; rfl
  have q5 : w3.cell? ⟨w.heap.size + 1, 5, none⟩ = some (.int .i64 R.ch.lf) := by rw [HB3.cell]; rfl
  have q6 : w3.cell? ⟨w.heap.size + 1, 6, none⟩ = some (.int .i64 R.ch.rt) := by rw [HB3.cell]; rfl
  have q7 : w3.cell? ⟨w.heap.size + 1, 7, none⟩ = some (.int .i64 R.ad) := by rw [HB3.cell]; rfl
  have q8 : w3.cell? ⟨w.heap.size + 1, 8, none⟩ = some (.int .i64 R.at_) := by rw [HB3.cell]; rfl
  have q9 : w3.cell? ⟨w.heap.size + 1, 9, none⟩ = some (.int .i64 R.bd) := by rw [HB3.cell]; rfl
  have q10 : w3.cell? ⟨w.heap.size + 1, 10, none⟩ = some (.int .i64 R.bt) := by rw [HB3.cell]; rfl
  have q11 : w3.cell? ⟨w.heap.size + 1, 11, none⟩ = some (.int .i64 R.cd) := by rw [HB3.cell]; rfl
  have q12 : w3.cell? ⟨w.heap.size + 1, 12, none⟩ = some (.int .i64 R.ct) := by rw [HB3.cell]; rfl
  have q13 : w3.cell? ⟨w.heap.size + 1, 13, none⟩ = some (.int .i64 R.dd) := by rw [HB3.cell]; rfl
  have q14 : w3.cell? ⟨w.heap.size + 1, 14, none⟩ = some (.int .i64 R.dt) := by rw [HB3.cell]; rfl
  have q15 : w3.cell? ⟨w.heap.size + 1, 15, none⟩ = some (.int .i64 R.ey) := by rw [HB3.cell]; rfl
  have q16 : w3.cell? ⟨w.heap.size + 1, 16, none⟩ = some (.int .i64 R.bo) := by rw [HB3.cell]; rfl
  go_wp2_with fail
  go_at_call 41; refine (eqFigure_c _ _ _ _ _).mono ?_; rintro e w4 ⟨rfl, hb4⟩; obtain ⟨hc4, hf4, hz4⟩ := bel hb4; (try simp only [World.size_drew, World.cell?_drew, World.frozen?_drew] at hc4 hf4 hz4); (try simp only [World.heap_drewN, World.cell?_drewN, World.frozen?_drewN] at hc4 hf4 hz4); (try have hl4 : w.heap.size < w4.heap.size := by (have hq := hb4.size; (try simp at hq); omega)); (try have hm4 : w.heap.size + 1 < w4.heap.size := by (have hq := hb4.size; (try simp at hq); omega)); (try have hn4 : w.heap.size + 1 + 1 < w4.heap.size := by (have hq := hb4.size; (try simp at hq); omega)); (try have hp4 : b < w4.heap.size := by (have hq := hb4.size; (try simp at hq); omega)); (try have ho4 : b' < w4.heap.size := by (have hq := hb4.size; (try simp at hq); omega))
  rw [eqP_self]
  have hbel4 : Below w.heap.size w w4 := by repeat (with_reducible first | exact Below.refl _ _ | assumption | refine Bel.alloc ?_ _ | refine Bel.step (by assumption) ?_ | refine Below.drew ?_ | refine Bel.drewN ?_ _ | refine Below.setCell ?_ (by first | exact Nat.le_refl _ | omega | (simp; done) | (simp; omega)) _)
  have HA4 := Blk.step hb4 HA3
  have HB4 := Blk.step hb4 HB3
  clear hb4 hc4 hf4 hz4 HA3 HB3 p0 p1 p2 p3 p4 p5 p6 p7 p8 p9 p10 p11 p12 p13 p14 p15 p16 q0 q1 q2 q3 q4 q5 q6 q7 q8 q9 q10 q11 q12 q13 q14 q15 q16
  have p0 : w4.cell? ⟨w.heap.size, 0, none⟩ = some (.int .i64 R.ch.dg) := by rw [HA4.cell]; rfl
  have p1 : w4.cell? ⟨w.heap.size, 1, none⟩ = some (.int .i64 R.ch.tn) := by rw [HA4.cell]; rfl
  have p2 : w4.cell? ⟨w.heap.size, 2, none⟩ = some (.string R.ch.nm) := by rw [HA4.cell]; rfl
  have p3 : w4.cell? ⟨w.heap.size, 3, none⟩ = some (.slice A R.ch.zs.length c) := by rw [HA4.cell]; rfl
  have p4 : w4.cell? ⟨w.heap.size, 4, none⟩ = some (.int .i64 R.ch.wd) := by rw [HA4.cell]; rfl
  have p5 : w4.cell? ⟨w.heap.size, 5, none⟩ = some (.int .i64 R.ch.lf) := by rw [HA4.cell]; rfl
  have p6 : w4.cell? ⟨w.heap.size, 6, none⟩ = some (.int .i64 R.ch.rt) := by rw [HA4.cell]; rfl
  have p7 : w4.cell? ⟨w.heap.size, 7, none⟩ = some (.int .i64 R.ad) := by rw [HA4.cell]; rfl
  have p8 : w4.cell? ⟨w.heap.size, 8, none⟩ = some (.int .i64 R.at_) := by rw [HA4.cell]; rfl
  have p9 : w4.cell? ⟨w.heap.size, 9, none⟩ = some (.int .i64 R.bd) := by rw [HA4.cell]; rfl
  have p10 : w4.cell? ⟨w.heap.size, 10, none⟩ = some (.int .i64 R.bt) := by rw [HA4.cell]; rfl
  have p11 : w4.cell? ⟨w.heap.size, 11, none⟩ = some (.int .i64 R.cd) := by rw [HA4.cell]; rfl
  have p12 : w4.cell? ⟨w.heap.size, 12, none⟩ = some (.int .i64 R.ct) := by rw [HA4.cell]; rfl
  have p13 : w4.cell? ⟨w.heap.size, 13, none⟩ = some (.int .i64 R.dd) := by rw [HA4.cell]; rfl
  have p14 : w4.cell? ⟨w.heap.size, 14, none⟩ = some (.int .i64 R.dt) := by rw [HA4.cell]; rfl
  have p15 : w4.cell? ⟨w.heap.size, 15, none⟩ = some (.int .i64 R.ey) := by rw [HA4.cell]; rfl
  have p16 : w4.cell? ⟨w.heap.size, 16, none⟩ = some (.int .i64 R.bo) := by rw [HA4.cell]; rfl
  have q0 : w4.cell? ⟨w.heap.size + 1, 0, none⟩ = some (.int .i64 R.ch.dg) := by rw [HB4.cell]; rfl
  have q1 : w4.cell? ⟨w.heap.size + 1, 1, none⟩ = some (.int .i64 R.ch.tn) := by rw [HB4.cell]; rfl
  have q2 : w4.cell? ⟨w.heap.size + 1, 2, none⟩ = some (.string R.ch.nm) := by rw [HB4.cell]; rfl
  have q3 : w4.cell? ⟨w.heap.size + 1, 3, none⟩ = some (.slice B R.ch.zs.length d) := by rw [HB4.cell]; rfl
  have q4 : w4.cell? ⟨w.heap.size + 1, 4, none⟩ = some (.int .i64 R.ch.wd) := by rw [HB4.cell]; rfl
  have q5 : w4.cell? ⟨w.heap.size + 1, 5, none⟩ = some (.int .i64 R.ch.lf) := by rw [HB4.cell]; rfl
  have q6 : w4.cell? ⟨w.heap.size + 1, 6, none⟩ = some (.int .i64 R.ch.rt) := by rw [HB4.cell]; rfl
  have q7 : w4.cell? ⟨w.heap.size + 1, 7, none⟩ = some (.int .i64 R.ad) := by rw [HB4.cell]; rfl
  have q8 : w4.cell? ⟨w.heap.size + 1, 8, none⟩ = some (.int .i64 R.at_) := by rw [HB4.cell]; rfl
  have q9 : w4.cell? ⟨w.heap.size + 1, 9, none⟩ = some (.int .i64 R.bd) := by rw [HB4.cell]; rfl
  have q10 : w4.cell? ⟨w.heap.size + 1, 10, none⟩ = some (.int .i64 R.bt) := by rw [HB4.cell]; rfl
  have q11 : w4.cell? ⟨w.heap.size + 1, 11, none⟩ = some (.int .i64 R.cd) := by rw [HB4.cell]; rfl
  have q12 : w4.cell? ⟨w.heap.size + 1, 12, none⟩ = some (.int .i64 R.ct) := by rw [HB4.cell]; rfl
  have q13 : w4.cell? ⟨w.heap.size + 1, 13, none⟩ = some (.int .i64 R.dd) := by rw [HB4.cell]; rfl
  have q14 : w4.cell? ⟨w.heap.size + 1, 14, none⟩ = some (.int .i64 R.dt) := by rw [HB4.cell]; rfl
  have q15 : w4.cell? ⟨w.heap.size + 1, 15, none⟩ = some (.int .i64 R.ey) := by rw [HB4.cell]; rfl
  have q16 : w4.cell? ⟨w.heap.size + 1, 16, none⟩ = some (.int .i64 R.bo) := by rw [HB4.cell]; rfl
  go_wp2_with fail
  go_at_call 41; refine (eqFigure_c _ _ _ _ _).mono ?_; rintro e w5 ⟨rfl, hb5⟩; obtain ⟨hc5, hf5, hz5⟩ := bel hb5; (try simp only [World.size_drew, World.cell?_drew, World.frozen?_drew] at hc5 hf5 hz5); (try simp only [World.heap_drewN, World.cell?_drewN, World.frozen?_drewN] at hc5 hf5 hz5); (try have hl5 : w.heap.size < w5.heap.size := by (have hq := hb5.size; (try simp at hq); omega)); (try have hm5 : w.heap.size + 1 < w5.heap.size := by (have hq := hb5.size; (try simp at hq); omega)); (try have hn5 : w.heap.size + 1 + 1 < w5.heap.size := by (have hq := hb5.size; (try simp at hq); omega)); (try have hp5 : b < w5.heap.size := by (have hq := hb5.size; (try simp at hq); omega)); (try have ho5 : b' < w5.heap.size := by (have hq := hb5.size; (try simp at hq); omega))
  rw [eqP_self]
  have hbel5 : Below w.heap.size w w5 := by repeat (with_reducible first | exact Below.refl _ _ | assumption | refine Bel.alloc ?_ _ | refine Bel.step (by assumption) ?_ | refine Below.drew ?_ | refine Bel.drewN ?_ _ | refine Below.setCell ?_ (by first | exact Nat.le_refl _ | omega | (simp; done) | (simp; omega)) _)
  have HA5 := Blk.step hb5 HA4
  have HB5 := Blk.step hb5 HB4
  clear hb5 hc5 hf5 hz5 HA4 HB4 p0 p1 p2 p3 p4 p5 p6 p7 p8 p9 p10 p11 p12 p13 p14 p15 p16 q0 q1 q2 q3 q4 q5 q6 q7 q8 q9 q10 q11 q12 q13 q14 q15 q16
  have p0 : w5.cell? ⟨w.heap.size, 0, none⟩ = some (.int .i64 R.ch.dg) := by rw [HA5.cell]; rfl
  have p1 : w5.cell? ⟨w.heap.size, 1, none⟩ = some (.int .i64 R.ch.tn) := by rw [HA5.cell]; rfl
  have p2 : w5.cell? ⟨w.heap.size, 2, none⟩ = some (.string R.ch.nm) := by rw [HA5.cell]; rfl
  have p3 : w5.cell? ⟨w.heap.size, 3, none⟩ = some (.slice A R.ch.zs.length c) := by rw [HA5.cell]; rfl
  have p4 : w5.cell? ⟨w.heap.size, 4, none⟩ = some (.int .i64 R.ch.wd) := by rw [HA5.cell]; rfl
  have p5 : w5.cell? ⟨w.heap.size, 5, none⟩ = some (.int .i64 R.ch.lf) := by rw [HA5.cell]; rfl
  have p6 : w5.cell? ⟨w.heap.size, 6, none⟩ = some (.int .i64 R.ch.rt) := by rw [HA5.cell]; rfl
  have p7 : w5.cell? ⟨w.heap.size, 7, none⟩ = some (.int .i64 R.ad) := by rw [HA5.cell]; rfl
  have p8 : w5.cell? ⟨w.heap.size, 8, none⟩ = some (.int .i64 R.at_) := by rw [HA5.cell]; rfl
  have p9 : w5.cell? ⟨w.heap.size, 9, none⟩ = some (.int .i64 R.bd) := by rw [HA5.cell]; rfl
  have p10 : w5.cell? ⟨w.heap.size, 10, none⟩ = some (.int .i64 R.bt) := by rw [HA5.cell]; rfl
  have p11 : w5.cell? ⟨w.heap.size, 11, none⟩ = some (.int .i64 R.cd) := by rw [HA5.cell]; rfl
  have p12 : w5.cell? ⟨w.heap.size, 12, none⟩ = some (.int .i64 R.ct) := by rw [HA5.cell]; rfl
  have p13 : w5.cell? ⟨w.heap.size, 13, none⟩ = some (.int .i64 R.dd) := by rw [HA5.cell]; rfl
  have p14 : w5.cell? ⟨w.heap.size, 14, none⟩ = some (.int .i64 R.dt) := by rw [HA5.cell]; rfl
  have p15 : w5.cell? ⟨w.heap.size, 15, none⟩ = some (.int .i64 R.ey) := by rw [HA5.cell]; rfl
  have p16 : w5.cell? ⟨w.heap.size, 16, none⟩ = some (.int .i64 R.bo) := by rw [HA5.cell]; rfl
  have q0 : w5.cell? ⟨w.heap.size + 1, 0, none⟩ = some (.int .i64 R.ch.dg) := by rw [HB5.cell]; rfl
  have q1 : w5.cell? ⟨w.heap.size + 1, 1, none⟩ = some (.int .i64 R.ch.tn) := by rw [HB5.cell]; rfl
  have q2 : w5.cell? ⟨w.heap.size + 1, 2, none⟩ = some (.string R.ch.nm) := by rw [HB5.cell]; rfl
  have q3 : w5.cell? ⟨w.heap.size + 1, 3, none⟩ = some (.slice B R.ch.zs.length d) := by rw [HB5.cell]; rfl
  have q4 : w5.cell? ⟨w.heap.size + 1, 4, none⟩ = some (.int .i64 R.ch.wd) := by rw [HB5.cell]; rfl
  have q5 : w5.cell? ⟨w.heap.size + 1, 5, none⟩ = some (.int .i64 R.ch.lf) := by rw [HB5.cell]; rfl
  have q6 : w5.cell? ⟨w.heap.size + 1, 6, none⟩ = some (.int .i64 R.ch.rt) := by rw [HB5.cell]; rfl
  have q7 : w5.cell? ⟨w.heap.size + 1, 7, none⟩ = some (.int .i64 R.ad) := by rw [HB5.cell]; rfl
  have q8 : w5.cell? ⟨w.heap.size + 1, 8, none⟩ = some (.int .i64 R.at_) := by rw [HB5.cell]; rfl
  have q9 : w5.cell? ⟨w.heap.size + 1, 9, none⟩ = some (.int .i64 R.bd) := by rw [HB5.cell]; rfl
  have q10 : w5.cell? ⟨w.heap.size + 1, 10, none⟩ = some (.int .i64 R.bt) := by rw [HB5.cell]; rfl
  have q11 : w5.cell? ⟨w.heap.size + 1, 11, none⟩ = some (.int .i64 R.cd) := by rw [HB5.cell]; rfl
  have q12 : w5.cell? ⟨w.heap.size + 1, 12, none⟩ = some (.int .i64 R.ct) := by rw [HB5.cell]; rfl
  have q13 : w5.cell? ⟨w.heap.size + 1, 13, none⟩ = some (.int .i64 R.dd) := by rw [HB5.cell]; rfl
  have q14 : w5.cell? ⟨w.heap.size + 1, 14, none⟩ = some (.int .i64 R.dt) := by rw [HB5.cell]; rfl
  have q15 : w5.cell? ⟨w.heap.size + 1, 15, none⟩ = some (.int .i64 R.ey) := by rw [HB5.cell]; rfl
  have q16 : w5.cell? ⟨w.heap.size + 1, 16, none⟩ = some (.int .i64 R.bo) := by rw [HB5.cell]; rfl
  clear HA5 HB5
  go_wp2
  go_ret
  exact ⟨rfl, by repeat (with_reducible first | exact Below.refl _ _ | assumption | refine Bel.alloc ?_ _ | refine Bel.step (by assumption) ?_ | refine Below.drew ?_ | refine Bel.drewN ?_ _ | refine Below.setCell ?_ (by first | exact Nat.le_refl _ | omega | (simp; done) | (simp; omega)) _)⟩
end Go.Proofs.Ytkhcepkcdfpofaa
