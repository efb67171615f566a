/- The statement FnScalePoints, walked. No conditions. -/
import Derived.Test.YthfphjbaglgacaaProg
import Derived.Test.YthfphjbaglgacaaBase
import Derived.Test.YthfphjbaglgacaaRw
import Derived.Test.YthfphjbaglgacaaRg
import Derived.Test.YthfphjbaglgacaaL01
import Derived.Test.YthfphjbaglgacaaCp
import Derived.Test.YthfphjbaglgacaaL18
import Derived.Test.YthfphjbaglgacaaL23
import Derived.Test.YthfphjbaglgacaaL03
import Derived.Test.YthfphjbaglgacaaL24
import Derived.Test.YthfphjbaglgacaaL24b
import Derived.Test.YthfphjbaglgacaaL04
import Derived.Test.YthfphjbaglgacaaL23g
import Derived.Test.YthfphjbaglgacaaL23h
import Derived.Test.YthfphjbaglgacaaL23i
import Derived.Test.YthfphjbaglgacaaE24
import Derived.Test.YthfphjbaglgacaaE23
import Derived.Test.YthfphjbaglgacaaE23p
import Derived.Test.YthfphjbaglgacaaD00
import Derived.Test.YthfphjbaglgacaaD01
import Derived.Test.YthfphjbaglgacaaD23b
import Derived.Test.YthfphjbaglgacaaD23c
import Derived.WalkKit
import Derived.WalkSpells
import Derived.WalkLawsBesides
import Derived.Lib.Hide
import Derived.Deep.QuietTactic
import Derived.BigQuiet
import Derived.Deep.Draws
import Derived.Deep.RegionHeld3
import Derived.Deep.Cut
namespace Go.Proofs.Ythfphjbaglgacaa
open Go.RowKit
set_option linter.unusedVariables false
set_option linter.unusedSimpArgs false
structure BoxSc (P : Prop) : Prop where
  out : P
theorem cut_Sc {G : Prop} (P : Prop) (k : BoxSc P → G) (h : P) : G := k ⟨h⟩
set_option maxRecDepth 50000 in
set_option maxHeartbeats 8000000 in
theorem FnScalePoints_w (w : World) (A : Option Addr) (c : Nat) (zs : List Int) (hl : zs.length ≤ 9223372036854775807) (hA : Byts w A zs) :
    Calls Try.prog 7 #[.slice A zs.length c] w fun e w' => e = .returned (.bool true) ∧ Below w.heap.size w w' := by
  have HB := Lib.hid (Below.refl w.heap.size w)
  by_cases hz : zs.length ≤ 4096
  rotate_left
  · go_enter Try.func7, Try.ntmps7
    go_wp2_with fail
    go_at_call 9; refine (big_yes A c zs.length (by omega) _).mono ?_; rintro e w' ⟨rfl, rfl⟩
    go_wp2
    go_ret
    exact ⟨rfl, HB.out⟩
  have HA := Lib.hid hA
  clear hA hl
  go_enter Try.func7, Try.ntmps7
  go_wp2_with fail
  go_at_call 9; refine (big_no A c zs.length hz _).mono ?_; rintro e w' ⟨rfl, rfl⟩
  go_wp2_with fail
  go_at_call 54; refine (DrawScalePoints_c A c zs hz _ HA.out).mono ?_; rintro e w1 ⟨C, g, q, sc, ps, gb, cb, rfl, hn0, hm0, hp0, hO, hOP, hb1⟩; have hka := Bel.ka HB.out hb1 (by repeat (with_reducible first | exact Below.refl _ _ | refine Bel.alloc ?_ _ | refine Below.drew ?_ | refine Bel.drewN ?_ _)); (try (replace HA := Lib.hid (Byts.step hb1 (Byts.step hka HA.out)))); replace HB := Lib.hid (Bel.step hb1 (Bel.step hka HB.out)); have hsz1 := hb1.size; have hsy1 := hka.size; (try simp only [World.size_alloc, World.size_drew, World.heap_drewN, World.size_setCell] at hsz1 hsy1); clear hka hb1
  have HI := Lib.hid hO.ints
  have HL := Lib.hid hOP.prs
  have hn : C.zs.length ≤ 1048576 := by omega
  have hm : C.nm.size ≤ 1048576 := by omega
  have hp : ps.length ≤ 1048576 := by omega
  have hgl : g < w1.heap.size := (World.ownsRow.lt hO g rfl).2
  have hgbl : gb < w1.heap.size := (World.ownsRow.lt hOP gb rfl).2
  clear hO hOP hn0 hm0
  have HC := Lib.hid (by have h := Blk.new w1 75 #[.int .i64 C.dg, .int .i64 C.tn, .string C.nm, .slice (some ⟨g, 0, none⟩) C.zs.length q, .int .i64 C.wd, .int .i64 C.lf, .int .i64 C.rt]; (try simp only [World.size_alloc] at h); exact h)
  replace HI := Lib.hid (Ints.alloc (.cells #[.int .i64 C.dg, .int .i64 C.tn, .string C.nm, .slice (some ⟨g, 0, none⟩) C.zs.length q, .int .i64 C.wd, .int .i64 C.lf, .int .i64 C.rt] 75) HI.out)
  replace HL := Lib.hid (Prs.alloc (.cells #[.int .i64 C.dg, .int .i64 C.tn, .string C.nm, .slice (some ⟨g, 0, none⟩) C.zs.length q, .int .i64 C.wd, .int .i64 C.lf, .int .i64 C.rt] 75) HL.out)
  replace HA := Lib.hid (Byts.alloc (.cells #[.int .i64 C.dg, .int .i64 C.tn, .string C.nm, .slice (some ⟨g, 0, none⟩) C.zs.length q, .int .i64 C.wd, .int .i64 C.lf, .int .i64 C.rt] 75) HA.out)
  replace HB := Lib.hid (Bel.alloc HB.out (.cells #[.int .i64 C.dg, .int .i64 C.tn, .string C.nm, .slice (some ⟨g, 0, none⟩) C.zs.length q, .int .i64 C.wd, .int .i64 C.lf, .int .i64 C.rt] 75))
  go_wp2_with (first | (refine wpList_load_blkG 75 _ _ (Blk.step (Bel.ka0 HB.out (by repeat (with_reducible first | exact Below.refl _ _ | refine Bel.alloc ?_ _ | refine Below.drew ?_ | refine Bel.drewN ?_ _))) HC.out) Try.underlying75 (by kernel_rfl) rfl rfl (by rfl) ?_))
  go_at_call 55; refine (ScalePoints_I C _ _ sc _ _ ps hp hn hm _ (by repeat (with_reducible first | exact HI.out | assumption | refine Ints.drew ?_ | refine Ints.drewN _ ?_ | refine Ints.alloc _ ?_ | refine Ints.step (by assumption) ?_)) (by repeat (with_reducible first | exact HL.out | assumption | refine Prs.drew ?_ | refine Prs.drewN _ ?_ | refine Prs.alloc _ ?_ | refine Prs.step (by assumption) ?_))).mono ?_; rintro e w2 ⟨v1, rfl, hO1, hb2⟩; have hka := Bel.ka HB.out hb2 (by repeat (with_reducible first | exact Below.refl _ _ | refine Bel.alloc ?_ _ | refine Below.drew ?_ | refine Bel.drewN ?_ _)); (try (replace HC := Lib.hid (Blk.step hb2 (Blk.step hka HC.out)))); (try (replace HI := Lib.hid (Ints.step hb2 (Ints.step hka HI.out)))); (try (replace HL := Lib.hid (Prs.step hb2 (Prs.step hka HL.out)))); (try (replace HA := Lib.hid (Byts.step hb2 (Byts.step hka HA.out)))); replace HB := Lib.hid (Bel.step hb2 (Bel.step hka HB.out)); have hsz2 := hb2.size; have hsy2 := hka.size; (try simp only [World.size_alloc, World.size_drew, World.heap_drewN, World.size_setCell] at hsz2 hsy2); clear hka hb2
  obtain ⟨A1, c1, rfl, hc1, hm1, hP1, _⟩ := hO1.form
  have HL1 := Lib.hid hP1
  clear hP1 hO1
  go_wp2_with (first | (refine wpList_load_blkG 75 _ _ (Blk.step (Bel.ka0 HB.out (by repeat (with_reducible first | exact Below.refl _ _ | refine Bel.alloc ?_ _ | refine Below.drew ?_ | refine Bel.drewN ?_ _))) HC.out) Try.underlying75 (by kernel_rfl) rfl rfl (by rfl) ?_))
  go_at_call 56; refine (ScalePoints_S C _ _ sc _ _ ps hp hn hm _ (by repeat (with_reducible first | exact HI.out | assumption | refine Ints.drew ?_ | refine Ints.drewN _ ?_ | refine Ints.alloc _ ?_ | refine Ints.step (by assumption) ?_)) (by repeat (with_reducible first | exact HL.out | assumption | refine Prs.drew ?_ | refine Prs.drewN _ ?_ | refine Prs.alloc _ ?_ | refine Prs.step (by assumption) ?_))).mono ?_; rintro e w3 ⟨v2, rfl, hO2, hb3⟩; have hka := Bel.ka HB.out hb3 (by repeat (with_reducible first | exact Below.refl _ _ | refine Bel.alloc ?_ _ | refine Below.drew ?_ | refine Bel.drewN ?_ _)); (try (replace HC := Lib.hid (Blk.step hb3 (Blk.step hka HC.out)))); (try (replace HI := Lib.hid (Ints.step hb3 (Ints.step hka HI.out)))); (try (replace HL := Lib.hid (Prs.step hb3 (Prs.step hka HL.out)))); (try (replace HL1 := Lib.hid (Prs.step hb3 (Prs.step hka HL1.out)))); (try (replace HA := Lib.hid (Byts.step hb3 (Byts.step hka HA.out)))); replace HB := Lib.hid (Bel.step hb3 (Bel.step hka HB.out)); have hsz3 := hb3.size; have hsy3 := hka.size; (try simp only [World.size_alloc, World.size_drew, World.heap_drewN, World.size_setCell] at hsz3 hsy3); clear hka hb3
  obtain ⟨A2, c2, rfl, hc2, hm2, hP2, _⟩ := hO2.form
  have HL2 := Lib.hid hP2
  clear hP2 hO2
  obtain ⟨k, hk⟩ : ∃ k, k = spqC C sc ps := ⟨_, rfl⟩
  obtain ⟨ls, hls⟩ : ∃ k, k = spqV C sc ps := ⟨_, rfl⟩
  rw [← hk, ← hls]
  rw [← hls] at HL1 HL2
  have HK := Lib.hid hk
  have HLS := Lib.hid hls
  have hll : ls.length ≤ 1048576 := by
    rw [hls]
    by_cases h0 : spqC C sc ps = 0
    · rw [spq_list h0, List.length_map]; omega
    · simp [spqV, h0]
  clear hk hls
  go_wp2_with fail
  go_at_call 57; refine (DrawChartHeight_c A c zs hz _ HA.out).mono ?_; rintro e w4 ⟨D, gd, qd, kd, ud, ut, vd, vt, rfl, hn0, hm0, hO, hb4⟩; have hka := Bel.ka HB.out hb4 (by repeat (with_reducible first | exact Below.refl _ _ | refine Bel.alloc ?_ _ | refine Below.drew ?_ | refine Bel.drewN ?_ _)); (try (replace HC := Lib.hid (Blk.step hb4 (Blk.step hka HC.out)))); (try (replace HI := Lib.hid (Ints.step hb4 (Ints.step hka HI.out)))); (try (replace HL := Lib.hid (Prs.step hb4 (Prs.step hka HL.out)))); (try (replace HL1 := Lib.hid (Prs.step hb4 (Prs.step hka HL1.out)))); (try (replace HL2 := Lib.hid (Prs.step hb4 (Prs.step hka HL2.out)))); replace HB := Lib.hid (Bel.step hb4 (Bel.step hka HB.out)); have hsz4 := hb4.size; have hsy4 := hka.size; (try simp only [World.size_alloc, World.size_drew, World.heap_drewN, World.size_setCell] at hsz4 hsy4); clear hka hb4
  have HJ := Lib.hid hO.ints
  have hdn : D.zs.length ≤ 1048576 := by omega
  have hdm : D.nm.size ≤ 1048576 := by omega
  clear hO hn0 hm0 HA
  have HD := Lib.hid (by have h := Blk.new w4 75 #[.int .i64 D.dg, .int .i64 D.tn, .string D.nm, .slice (some ⟨gd, 0, none⟩) D.zs.length qd, .int .i64 D.wd, .int .i64 D.lf, .int .i64 D.rt]; (try simp only [World.size_alloc] at h); exact h)
  replace HC := Lib.hid (Blk.alloc (.cells #[.int .i64 D.dg, .int .i64 D.tn, .string D.nm, .slice (some ⟨gd, 0, none⟩) D.zs.length qd, .int .i64 D.wd, .int .i64 D.lf, .int .i64 D.rt] 75) HC.out)
  replace HI := Lib.hid (Ints.alloc (.cells #[.int .i64 D.dg, .int .i64 D.tn, .string D.nm, .slice (some ⟨gd, 0, none⟩) D.zs.length qd, .int .i64 D.wd, .int .i64 D.lf, .int .i64 D.rt] 75) HI.out)
  replace HL := Lib.hid (Prs.alloc (.cells #[.int .i64 D.dg, .int .i64 D.tn, .string D.nm, .slice (some ⟨gd, 0, none⟩) D.zs.length qd, .int .i64 D.wd, .int .i64 D.lf, .int .i64 D.rt] 75) HL.out)
  replace HL1 := Lib.hid (Prs.alloc (.cells #[.int .i64 D.dg, .int .i64 D.tn, .string D.nm, .slice (some ⟨gd, 0, none⟩) D.zs.length qd, .int .i64 D.wd, .int .i64 D.lf, .int .i64 D.rt] 75) HL1.out)
  replace HL2 := Lib.hid (Prs.alloc (.cells #[.int .i64 D.dg, .int .i64 D.tn, .string D.nm, .slice (some ⟨gd, 0, none⟩) D.zs.length qd, .int .i64 D.wd, .int .i64 D.lf, .int .i64 D.rt] 75) HL2.out)
  replace HJ := Lib.hid (Ints.alloc (.cells #[.int .i64 D.dg, .int .i64 D.tn, .string D.nm, .slice (some ⟨gd, 0, none⟩) D.zs.length qd, .int .i64 D.wd, .int .i64 D.lf, .int .i64 D.rt] 75) HJ.out)
  replace HB := Lib.hid (Bel.alloc HB.out (.cells #[.int .i64 D.dg, .int .i64 D.tn, .string D.nm, .slice (some ⟨gd, 0, none⟩) D.zs.length qd, .int .i64 D.wd, .int .i64 D.lf, .int .i64 D.rt] 75))
  have HU := Lib.hid (by have h := Blk.new (w4.alloc (.cells #[.int .i64 D.dg, .int .i64 D.tn, .string D.nm, .slice (some ⟨gd, 0, none⟩) D.zs.length qd, .int .i64 D.wd, .int .i64 D.lf, .int .i64 D.rt] 75)) 71 #[.int .i64 ud, .int .i64 ut]; (try simp only [World.size_alloc] at h); exact h)
  replace HC := Lib.hid (Blk.alloc (.cells #[.int .i64 ud, .int .i64 ut] 71) HC.out)
  replace HD := Lib.hid (Blk.alloc (.cells #[.int .i64 ud, .int .i64 ut] 71) HD.out)
  replace HI := Lib.hid (Ints.alloc (.cells #[.int .i64 ud, .int .i64 ut] 71) HI.out)
  replace HL := Lib.hid (Prs.alloc (.cells #[.int .i64 ud, .int .i64 ut] 71) HL.out)
  replace HL1 := Lib.hid (Prs.alloc (.cells #[.int .i64 ud, .int .i64 ut] 71) HL1.out)
  replace HL2 := Lib.hid (Prs.alloc (.cells #[.int .i64 ud, .int .i64 ut] 71) HL2.out)
  replace HJ := Lib.hid (Ints.alloc (.cells #[.int .i64 ud, .int .i64 ut] 71) HJ.out)
  replace HB := Lib.hid (Bel.alloc HB.out (.cells #[.int .i64 ud, .int .i64 ut] 71))
  have HV := Lib.hid (by have h := Blk.new ((w4.alloc (.cells #[.int .i64 D.dg, .int .i64 D.tn, .string D.nm, .slice (some ⟨gd, 0, none⟩) D.zs.length qd, .int .i64 D.wd, .int .i64 D.lf, .int .i64 D.rt] 75)).alloc (.cells #[.int .i64 ud, .int .i64 ut] 71)) 71 #[.int .i64 vd, .int .i64 vt]; (try simp only [World.size_alloc] at h); exact h)
  replace HC := Lib.hid (Blk.alloc (.cells #[.int .i64 vd, .int .i64 vt] 71) HC.out)
  replace HD := Lib.hid (Blk.alloc (.cells #[.int .i64 vd, .int .i64 vt] 71) HD.out)
  replace HU := Lib.hid (Blk.alloc (.cells #[.int .i64 vd, .int .i64 vt] 71) HU.out)
  replace HI := Lib.hid (Ints.alloc (.cells #[.int .i64 vd, .int .i64 vt] 71) HI.out)
  replace HL := Lib.hid (Prs.alloc (.cells #[.int .i64 vd, .int .i64 vt] 71) HL.out)
  replace HL1 := Lib.hid (Prs.alloc (.cells #[.int .i64 vd, .int .i64 vt] 71) HL1.out)
  replace HL2 := Lib.hid (Prs.alloc (.cells #[.int .i64 vd, .int .i64 vt] 71) HL2.out)
  replace HJ := Lib.hid (Ints.alloc (.cells #[.int .i64 vd, .int .i64 vt] 71) HJ.out)
  replace HB := Lib.hid (Bel.alloc HB.out (.cells #[.int .i64 vd, .int .i64 vt] 71))
  go_wp2_with (first | (refine wpList_load_blkG 75 _ _ (Blk.step (Bel.ka0 HB.out (by repeat (with_reducible first | exact Below.refl _ _ | refine Bel.alloc ?_ _ | refine Below.drew ?_ | refine Bel.drewN ?_ _))) HD.out) Try.underlying75 (by kernel_rfl) rfl rfl (by rfl) ?_) | (refine wpList_load_blkG 71 _ _ (Blk.step (Bel.ka0 HB.out (by repeat (with_reducible first | exact Below.refl _ _ | refine Bel.alloc ?_ _ | refine Below.drew ?_ | refine Bel.drewN ?_ _))) HU.out) Try.underlying71 (by kernel_rfl) rfl rfl (by rfl) ?_) | (refine wpList_load_blkG 71 _ _ (Blk.step (Bel.ka0 HB.out (by repeat (with_reducible first | exact Below.refl _ _ | refine Bel.alloc ?_ _ | refine Below.drew ?_ | refine Bel.drewN ?_ _))) HV.out) Try.underlying71 (by kernel_rfl) rfl rfl (by rfl) ?_))
  go_at_call 58; refine (ChartHeight_I D _ _ kd ud ut vd vt hdn hdm _ (by repeat (with_reducible first | exact HJ.out | assumption | refine Ints.drew ?_ | refine Ints.drewN _ ?_ | refine Ints.alloc _ ?_ | refine Ints.step (by assumption) ?_))).mono ?_; rintro e w5 ⟨rfl, hb5⟩; have hka := Bel.ka HB.out hb5 (by repeat (with_reducible first | exact Below.refl _ _ | refine Bel.alloc ?_ _ | refine Below.drew ?_ | refine Bel.drewN ?_ _)); (try (replace HC := Lib.hid (Blk.step hb5 (Blk.step hka HC.out)))); (try (replace HD := Lib.hid (Blk.step hb5 (Blk.step hka HD.out)))); (try (replace HU := Lib.hid (Blk.step hb5 (Blk.step hka HU.out)))); (try (replace HV := Lib.hid (Blk.step hb5 (Blk.step hka HV.out)))); (try (replace HI := Lib.hid (Ints.step hb5 (Ints.step hka HI.out)))); (try (replace HL := Lib.hid (Prs.step hb5 (Prs.step hka HL.out)))); (try (replace HL1 := Lib.hid (Prs.step hb5 (Prs.step hka HL1.out)))); (try (replace HL2 := Lib.hid (Prs.step hb5 (Prs.step hka HL2.out)))); (try (replace HJ := Lib.hid (Ints.step hb5 (Ints.step hka HJ.out)))); replace HB := Lib.hid (Bel.step hb5 (Bel.step hka HB.out)); have hsz5 := hb5.size; have hsy5 := hka.size; (try simp only [World.size_alloc, World.size_drew, World.heap_drewN, World.size_setCell] at hsz5 hsy5); clear hka hb5
  go_wp2_with (first | (refine wpList_load_blkG 75 _ _ (Blk.step (Bel.ka0 HB.out (by repeat (with_reducible first | exact Below.refl _ _ | refine Bel.alloc ?_ _ | refine Below.drew ?_ | refine Bel.drewN ?_ _))) HD.out) Try.underlying75 (by kernel_rfl) rfl rfl (by rfl) ?_) | (refine wpList_load_blkG 71 _ _ (Blk.step (Bel.ka0 HB.out (by repeat (with_reducible first | exact Below.refl _ _ | refine Bel.alloc ?_ _ | refine Below.drew ?_ | refine Bel.drewN ?_ _))) HU.out) Try.underlying71 (by kernel_rfl) rfl rfl (by rfl) ?_) | (refine wpList_load_blkG 71 _ _ (Blk.step (Bel.ka0 HB.out (by repeat (with_reducible first | exact Below.refl _ _ | refine Bel.alloc ?_ _ | refine Below.drew ?_ | refine Bel.drewN ?_ _))) HV.out) Try.underlying71 (by kernel_rfl) rfl rfl (by rfl) ?_))
  go_at_call 59; refine (ChartHeight_S D _ _ kd ud ut vd vt hdn hdm _ (by repeat (with_reducible first | exact HJ.out | assumption | refine Ints.drew ?_ | refine Ints.drewN _ ?_ | refine Ints.alloc _ ?_ | refine Ints.step (by assumption) ?_))).mono ?_; rintro e w6 ⟨rfl, hb6⟩; have hka := Bel.ka HB.out hb6 (by repeat (with_reducible first | exact Below.refl _ _ | refine Bel.alloc ?_ _ | refine Below.drew ?_ | refine Bel.drewN ?_ _)); (try (replace HC := Lib.hid (Blk.step hb6 (Blk.step hka HC.out)))); (try (replace HD := Lib.hid (Blk.step hb6 (Blk.step hka HD.out)))); (try (replace HU := Lib.hid (Blk.step hb6 (Blk.step hka HU.out)))); (try (replace HV := Lib.hid (Blk.step hb6 (Blk.step hka HV.out)))); (try (replace HI := Lib.hid (Ints.step hb6 (Ints.step hka HI.out)))); (try (replace HL := Lib.hid (Prs.step hb6 (Prs.step hka HL.out)))); (try (replace HL1 := Lib.hid (Prs.step hb6 (Prs.step hka HL1.out)))); (try (replace HL2 := Lib.hid (Prs.step hb6 (Prs.step hka HL2.out)))); (try (replace HJ := Lib.hid (Ints.step hb6 (Ints.step hka HJ.out)))); replace HB := Lib.hid (Bel.step hb6 (Bel.step hka HB.out)); have hsz6 := hb6.size; have hsy6 := hka.size; (try simp only [World.size_alloc, World.size_drew, World.heap_drewN, World.size_setCell] at hsz6 hsy6); clear hka hb6
  obtain ⟨x, hx⟩ : ∃ k, k = chC D kd ud ut vd vt := ⟨_, rfl⟩
  obtain ⟨h, hh⟩ : ∃ k, k = chV D kd ud ut vd vt := ⟨_, rfl⟩
  have hsw := ch_swap D kd ud ut vd vt
  rw [← hx, ← hh] at hsw ⊢
  have HSW := Lib.hid hsw
  have hh0 : 0 ≤ h := hsw.2.2
  clear hx hh hsw
  go_wp2_with fail
  go_at_call 60; refine (likePoints_c _ _ _ _ ls hll _ (by repeat (with_reducible first | exact HL1.out | assumption | refine Prs.drew ?_ | refine Prs.drewN _ ?_ | refine Prs.alloc _ ?_ | refine Prs.step (by assumption) ?_)) (by repeat (with_reducible first | exact HL2.out | assumption | refine Prs.drew ?_ | refine Prs.drewN _ ?_ | refine Prs.alloc _ ?_ | refine Prs.step (by assumption) ?_))).mono ?_; rintro e w7 ⟨rfl, hb7⟩; have hka := Bel.ka HB.out hb7 (by repeat (with_reducible first | exact Below.refl _ _ | refine Bel.alloc ?_ _ | refine Below.drew ?_ | refine Bel.drewN ?_ _)); (try (replace HC := Lib.hid (Blk.step hb7 (Blk.step hka HC.out)))); (try (replace HD := Lib.hid (Blk.step hb7 (Blk.step hka HD.out)))); (try (replace HU := Lib.hid (Blk.step hb7 (Blk.step hka HU.out)))); (try (replace HV := Lib.hid (Blk.step hb7 (Blk.step hka HV.out)))); (try (replace HI := Lib.hid (Ints.step hb7 (Ints.step hka HI.out)))); (try (replace HL := Lib.hid (Prs.step hb7 (Prs.step hka HL.out)))); (try (replace HL1 := Lib.hid (Prs.step hb7 (Prs.step hka HL1.out)))); (try (replace HJ := Lib.hid (Ints.step hb7 (Ints.step hka HJ.out)))); replace HB := Lib.hid (Bel.step hb7 (Bel.step hka HB.out)); have hsz7 := hb7.size; have hsy7 := hka.size; (try simp only [World.size_alloc, World.size_drew, World.heap_drewN, World.size_setCell] at hsz7 hsy7); clear hka hb7
  have HLen := Lib.hid (fun h0 : k = 0 => (show ls.length = ps.length by rw [HLS.out, spq_list (by rw [← HK.out]; exact h0), List.length_map]))
  have hs1 : w1.heap.size < w7.heap.size := HC.out.lt
  by_cases hx0 : x = 0
  · subst hx0
    go_wp2_with (first | (refine wpList_load_blkG 75 _ _ (Blk.step (Bel.ka0 HB.out (by repeat (with_reducible first | exact Below.refl _ _ | refine Bel.alloc ?_ _ | refine Below.drew ?_ | refine Bel.drewN ?_ _))) HD.out) Try.underlying75 (by kernel_rfl) rfl rfl (by rfl) ?_) | (refine wpList_load_blkG 71 _ _ (Blk.step (Bel.ka0 HB.out (by repeat (with_reducible first | exact Below.refl _ _ | refine Bel.alloc ?_ _ | refine Below.drew ?_ | refine Bel.drewN ?_ _))) HU.out) Try.underlying71 (by kernel_rfl) rfl rfl (by rfl) ?_) | (refine wpList_load_blkG 71 _ _ (Blk.step (Bel.ka0 HB.out (by repeat (with_reducible first | exact Below.refl _ _ | refine Bel.alloc ?_ _ | refine Below.drew ?_ | refine Bel.drewN ?_ _))) HV.out) Try.underlying71 (by kernel_rfl) rfl rfl (by rfl) ?_))
    go_at_call 58; refine (ChartHeight_I D _ _ kd vd vt ud ut hdn hdm _ (by repeat (with_reducible first | exact HJ.out | assumption | refine Ints.drew ?_ | refine Ints.drewN _ ?_ | refine Ints.alloc _ ?_ | refine Ints.step (by assumption) ?_))).mono ?_; rintro e w8 ⟨rfl, hb8⟩; have hka := Bel.ka HB.out hb8 (by repeat (with_reducible first | exact Below.refl _ _ | refine Bel.alloc ?_ _ | refine Below.drew ?_ | refine Bel.drewN ?_ _)); (try (replace HC := Lib.hid (Blk.step hb8 (Blk.step hka HC.out)))); (try (replace HD := Lib.hid (Blk.step hb8 (Blk.step hka HD.out)))); (try (replace HU := Lib.hid (Blk.step hb8 (Blk.step hka HU.out)))); (try (replace HV := Lib.hid (Blk.step hb8 (Blk.step hka HV.out)))); (try (replace HI := Lib.hid (Ints.step hb8 (Ints.step hka HI.out)))); (try (replace HL := Lib.hid (Prs.step hb8 (Prs.step hka HL.out)))); (try (replace HL1 := Lib.hid (Prs.step hb8 (Prs.step hka HL1.out)))); (try (replace HJ := Lib.hid (Ints.step hb8 (Ints.step hka HJ.out)))); replace HB := Lib.hid (Bel.step hb8 (Bel.step hka HB.out)); have hsz8 := hb8.size; have hsy8 := hka.size; (try simp only [World.size_alloc, World.size_drew, World.heap_drewN, World.size_setCell] at hsz8 hsy8); clear hka hb8
    rw [HSW.out.1, HSW.out.2.1]
    go_wp2
    have hs2 : w1.heap.size < w8.heap.size := HC.out.lt
    clear HD HU HV HJ HL2 hs1
    generalize w8 = V at HC HI HL HL1 HB hs2 ⊢
    by_cases hk : k = 0
    rotate_left
    · have d1 : (k == 0) = false := by simpa using hk
      go_loopw [20] (fun i wr => i = .int .i64 0 ∧ Hid (Below w'.heap.size w' wr)) (fun i _ => 0)
      case atStart => exact ⟨rfl, HB⟩
      case round =>
        clear HB
        obtain ⟨rfl, HB⟩ := hrel
        go_wp2
        go_ret
        exact ⟨rfl, HB.out⟩
    have hll2 : ls.length = ps.length := HLen.out hk
    have HLL := Lib.hid hll2
    rw [hll2]
    clear hll2
    go_loopw [20] (fun i wr => ∃ j : Nat, j ≤ ps.length ∧ i = .int .i64 j ∧ Hid (Blk wr w1.heap.size 75 #[.int .i64 C.dg, .int .i64 C.tn, .string C.nm, .slice (some ⟨g, 0, none⟩) C.zs.length q, .int .i64 C.wd, .int .i64 C.lf, .int .i64 C.rt]) ∧ Hid (Ints wr (some ⟨g, 0, none⟩) C.zs) ∧ Hid (Prs wr (some ⟨gb, 0, none⟩) ps) ∧ Hid (Prs wr A1 ls) ∧ Hid (Below w'.heap.size w' wr)) (fun i _ => ps.length - (intOf i).toNat)
    case atStart => exact ⟨0, Nat.zero_le _, rfl, HC, HI, HL, HL1, HB⟩
    case round =>
      clear HC HI HL HL1 HB hs2
      obtain ⟨j, hj, rfl, HC, HI, HL, HL1, HB⟩ := hrel
      have hlC := HC.out.lt
      by_cases hlt : j < ps.length
      rotate_left
      · obtain rfl : j = ps.length := by omega
        subst hk
        go_wp2
        go_ret
        exact ⟨rfl, HB.out⟩
      have hat := spq_at (show spqC C sc ps = 0 by rw [← HK.out]; exact hk) hlt
      have HAT := Lib.hid hat
      have hlj : j < ls.length := by have := HLL.out; omega
      have hlsj : ls[j] = (ptX C sc ps[j].1 ps[j].2, ptY C sc ps[j].1 ps[j].2) := by
        have e : ls = ps.map (ptOf C sc) := by rw [HLS.out, spq_list (by rw [← HK.out]; exact hk)]
        subst e
        rw [List.getElem_map, hat.2.1, hat.2.2]
        rfl
      have HLJ := Lib.hid hlsj
      clear hat hlsj
      subst hk
      go_wp2
      have hji : ¬ (ps.length : Int) ≤ j := by omega
      obtain ⟨fd, hfd⟩ : ∃ z, z = ps[j].1 := ⟨_, rfl⟩
      obtain ⟨ft, hft⟩ : ∃ z, z = ps[j].2 := ⟨_, rfl⟩
      rw [← hfd, ← hft] at HAT HLJ
      have HFT := Lib.hid (And.intro hfd hft)
      clear hfd hft
      refine wp_region_held_drew (S := fun V => Blk V w1.heap.size 75 #[.int .i64 C.dg, .int .i64 C.tn, .string C.nm, .slice (some ⟨g, 0, none⟩) C.zs.length q, .int .i64 C.wd, .int .i64 C.lf, .int .i64 C.rt] ∧ Prs V (some ⟨gb, 0, none⟩) ps ∧ Ints V (some ⟨g, 0, none⟩) C.zs) (by kernel_rfl) (⟨HC.out.drew, Prs.drew HL.out, HI.out⟩) (fun hHeld => ?_)
      replace HC := Lib.hid HC.out.drew
      replace HI := Lib.hid (Ints.drew HI.out)
      replace HL := Lib.hid (Prs.drew HL.out)
      replace HL1 := Lib.hid (Prs.drew HL1.out)
      replace HB := Lib.hid (Below.drew HB.out)
      have hsd : wr.drew.heap.size = wr.heap.size := rfl
      rw [← hsd] at hlC
      clear hsd
      generalize wr.drew = v at HC HI HL HL1 HB hHeld hlC ⊢
      have HV := Lib.hid (Below.refl v.heap.size v)
      refine wpAnyH_take (i := 0) (v := .agg #[.int .i64 C.dg, .int .i64 C.tn, .string C.nm, .slice (some ⟨g, 0, none⟩) C.zs.length q, .int .i64 C.wd, .int .i64 C.lf, .int .i64 C.rt]) rfl (by kernel_rfl) (by kernel_rfl) (by kernel_rfl) (fun _ _ _ h => h) (yieldsIf_load_blk 75 _ (w1.heap.size) (fun _ h => h.1) Try.underlying75 (by kernel_rfl) (by rfl) rfl rfl) hHeld ?_
      try simp only [Act.put, List.setIfInBounds_toArray, List.set_cons_zero, List.set_cons_succ]
      refine wpAnyH_take (i := 1) (v := (.int .i64 sc)) rfl (by kernel_rfl) (by kernel_rfl) (by kernel_rfl) (fun _ _ _ h => h) (Or.inl ⟨by rfl, fun w _ => by simp [go_sem, execOp]⟩) hHeld ?_
      simp only [Act.put, List.getElem_toArray, List.getElem_cons_succ, List.getElem_cons_zero, List.setIfInBounds_toArray, List.set_cons_zero, List.set_cons_succ]
      refine wpAnyH_take (i := 2) (v := (.slice (some ⟨gb, 0, none⟩) ps.length cb)) rfl (by kernel_rfl) (by kernel_rfl) (by kernel_rfl) (fun _ _ _ h => h) (Or.inl ⟨by rfl, fun w _ => by simp [go_sem, execOp]⟩) hHeld ?_
      simp only [Act.put, List.getElem_toArray, List.getElem_cons_succ, List.getElem_cons_zero, List.setIfInBounds_toArray, List.set_cons_zero, List.set_cons_succ]
      refine wpAnyH_take (i := 3) (v := (.int .i64 j)) rfl (by kernel_rfl) (by kernel_rfl) (by kernel_rfl) (fun _ _ _ h => h) (Or.inl ⟨by rfl, fun w _ => by simp [go_sem, execOp]⟩) hHeld ?_
      simp only [Act.put, List.getElem_toArray, List.getElem_cons_succ, List.getElem_cons_zero, List.setIfInBounds_toArray, List.set_cons_zero, List.set_cons_succ]
      refine wpAnyH_take (i := 4) (v := (.pointer (some ⟨gb, j * 2, none⟩))) rfl (by kernel_rfl) (by kernel_rfl) (by kernel_rfl) (fun _ _ _ h => h) (Or.inl ⟨by rfl, fun w' h => by simp [go_sem, execOp, hlt, hji]⟩) hHeld ?_
      simp only [Act.put, List.getElem_toArray, List.getElem_cons_succ, List.getElem_cons_zero, List.setIfInBounds_toArray, List.set_cons_zero, List.set_cons_succ]
      refine wpAnyH_take (i := 5) (v := (.agg #[.int .i64 fd, .int .i64 ft])) rfl (by kernel_rfl) (by kernel_rfl) (by kernel_rfl) (fun _ _ _ h => h) (Or.inl ⟨by rfl, fun w' h => by have q0 : w'.cell? ⟨gb, j * 2, none⟩ = some (.int .i64 fd) := (Prs.cells2 h.2.1 j hlt).1.trans (by rw [HFT.out.1]); have q1 : w'.cell? ⟨gb, j * 2 + 1, none⟩ = some (.int .i64 ft) := (Prs.cells2 h.2.1 j hlt).2.trans (by rw [HFT.out.2]); simp [go_sem, execOp, q0, q1]⟩) hHeld ?_
      simp only [Act.put, List.getElem_toArray, List.getElem_cons_succ, List.getElem_cons_zero, List.setIfInBounds_toArray, List.set_cons_zero, List.set_cons_succ]
      obtain ⟨pX, hpX⟩ : ∃ z, z = ptX C sc fd ft := ⟨_, rfl⟩
      obtain ⟨pY, hpY⟩ : ∃ z, z = ptY C sc fd ft := ⟨_, rfl⟩
      have HCP := Lib.hid (fun (W : World) (hI : Ints W (some ⟨g, 0, none⟩) C.zs) => ChartPoint_I C (some ⟨g, 0, none⟩) q sc fd ft hn hm W hI)
      rw [HAT.out.1, ← hpX, ← hpY] at HCP
      have HPX := Lib.hid (And.intro hpX hpY)
      clear hpX hpY
      apply cut_Sc
      · intro key
        refine wpAnyH_ready (rs := [6, 10]) (by kernel_rfl) (by simp) ?_
        refine AllReadyH.cons rfl (fun K hK => ?_) (AllReadyH.cons rfl (fun K hK => ?_) (AllReadyH.nil))
        · go_simp
          go_at_call 61; refine (HCP.out _ HI.out).mono ?_; rintro e w9 ⟨rfl, hb9⟩; have hka := Bel.ka HB.out hb9 (by repeat (with_reducible first | exact Below.refl _ _ | refine Bel.alloc ?_ _ | refine Below.drew ?_ | refine Bel.drewN ?_ _)); (try (replace HC := Lib.hid (Blk.step hb9 (Blk.step hka HC.out)))); (try (replace HI := Lib.hid (Ints.step hb9 (Ints.step hka HI.out)))); (try (replace HL := Lib.hid (Prs.step hb9 (Prs.step hka HL.out)))); (try (replace HV := Lib.hid (Bel.step hb9 (Bel.step hka HV.out)))); replace HB := Lib.hid (Bel.step hb9 (Bel.step hka HB.out)); have hsz9 := hb9.size; have hsy9 := hka.size; (try simp only [World.size_alloc, World.size_drew, World.heap_drewN, World.size_setCell] at hsz9 hsy9); clear hka hb9
          refine hK.out _ _ (⟨HC.out, HL.out, HI.out⟩) (fun hHeld => ?_)
          clear hK K
          try simp only [Act.put, List.setIfInBounds_toArray, List.set_cons_zero, List.set_cons_succ]
          refine wpAnyH_take (i := 7) (v := (.tuple #[.agg #[.int .i64 pX, .int .i64 pY], .int .i64 0])) rfl (by kernel_rfl) (by kernel_rfl) (by kernel_rfl) (fun _ _ _ h => h) (Or.inl ⟨by rfl, fun w _ => by simp [go_sem, execOp]⟩) hHeld ?_
          simp only [Act.put, List.getElem_toArray, List.getElem_cons_succ, List.getElem_cons_zero, List.setIfInBounds_toArray, List.set_cons_zero, List.set_cons_succ]
          refine wpAnyH_take (i := 8) (v := (.agg #[.int .i64 pX, .int .i64 pY])) rfl (by kernel_rfl) (by kernel_rfl) (by kernel_rfl) (fun _ _ _ h => h) (Or.inl ⟨by rfl, fun w _ => by simp [go_sem, execOp]⟩) hHeld ?_
          simp only [Act.put, List.getElem_toArray, List.getElem_cons_succ, List.getElem_cons_zero, List.setIfInBounds_toArray, List.set_cons_zero, List.set_cons_succ]
          refine wpAnyH_take (i := 9) (v := (.int .i64 0)) rfl (by kernel_rfl) (by kernel_rfl) (by kernel_rfl) (fun _ _ _ h => h) (Or.inl ⟨by rfl, fun w _ => by simp [go_sem, execOp]⟩) hHeld ?_
          simp only [Act.put, List.getElem_toArray, List.getElem_cons_succ, List.getElem_cons_zero, List.setIfInBounds_toArray, List.set_cons_zero, List.set_cons_succ]
          refine wpAnyH_ready (rs := [10]) (by kernel_rfl) (by simp) ?_
          refine AllReadyH.cons rfl (fun K hK => ?_) (AllReadyH.nil)
          go_simp
          have HN := Lib.hid (by have h := Blk.new w9 66 #[.int .i64 0, .int .i64 0]; (try simp only [World.size_alloc] at h); exact h)
          replace HC := Lib.hid (Blk.alloc (.cells #[.int .i64 0, .int .i64 0] 66) HC.out)
          replace HI := Lib.hid (Ints.alloc (.cells #[.int .i64 0, .int .i64 0] 66) HI.out)
          replace HL := Lib.hid (Prs.alloc (.cells #[.int .i64 0, .int .i64 0] 66) HL.out)
          replace HV := Lib.hid (Bel.alloc HV.out (.cells #[.int .i64 0, .int .i64 0] 66))
          replace HB := Lib.hid (Bel.alloc HB.out (.cells #[.int .i64 0, .int .i64 0] 66))
          refine hK.out _ _ (⟨HC.out, HL.out, HI.out⟩) (fun hHeld => ?_)
          clear hK K
          try simp only [Act.put, List.setIfInBounds_toArray, List.set_cons_zero, List.set_cons_succ]
          refine wpAnyH_ready (rs := [11]) (by kernel_rfl) (by simp) ?_
          refine AllReadyH.cons rfl (fun K hK => ?_) AllReadyH.nil
          refine step_store_part 66 _ _ _ 0 (.agg #[.int .i64 pX, .int .i64 pY]) #[.int .i64 pX, .int .i64 pY] (Blk.step (Bel.ka0 HB.out (by repeat (with_reducible first | exact Below.refl _ _ | refine Bel.alloc ?_ _ | refine Below.drew ?_ | refine Bel.drewN ?_ _))) HN.out) rfl rfl rfl rfl rfl (by rfl) (by kernel_rfl) (by simp [Value.oneCell']) (by simp) ?_; intro wS hBS hkb; simp only [setL, List.setIfInBounds_toArray, List.set_cons_zero, List.set_cons_succ] at hBS; have hka := Kp.kab HB.out hkb (by repeat (with_reducible first | exact Below.refl _ _ | refine Bel.alloc ?_ _ | refine Below.drew ?_ | refine Bel.drewN ?_ _)); (try (replace HC := Lib.hid ((Blk.step hka HC.out).kp hkb (by first | omega | (simp; omega))))); (try (replace HI := Lib.hid (Ints.kpB (Ints.step hka HI.out) hkb (by first | omega | (simp; omega))))); (try (replace HL := Lib.hid (Prs.kpB (Prs.step hka HL.out) hkb (by first | omega | (simp; omega))))); (try (replace HV := Lib.hid (Kp.bel hkb (by first | omega | (simp; omega)) (by first | omega | (simp; omega)) (Bel.step hka HV.out)))); replace HB := Lib.hid (Kp.bel hkb (by first | omega | (simp; omega)) (by first | omega | (simp; omega)) (Bel.step hka HB.out)); replace HN := Lib.hid hBS; have hszS := hkb.size_; have hsyS := hka.size; (try simp only [World.size_alloc, World.size_drew, World.heap_drewN, World.size_setCell] at hszS hsyS); clear hBS hka hkb
          refine hK.out _ _ (⟨HC.out, HL.out, HI.out⟩) (fun hHeld => ?_)
          clear hK K
          try simp only [Act.put, List.setIfInBounds_toArray, List.set_cons_zero, List.set_cons_succ]
          refine wpAnyH_take (i := 12) (v := (.int .i64 0)) rfl (by kernel_rfl) (by kernel_rfl) (by kernel_rfl) (fun _ _ _ h => h) (Or.inl ⟨by rfl, fun w _ => by simp [go_sem, execOp]⟩) hHeld ?_
          simp only [Act.put, List.getElem_toArray, List.getElem_cons_succ, List.getElem_cons_zero, List.setIfInBounds_toArray, List.set_cons_zero, List.set_cons_succ]
          refine wpAnyH_done (by kernel_rfl) ?_ _
          generalize w9.heap.size = Y at HN ⊢
          clear hHeld
          replace HV := Lib.hid HV.out
          revert HN HV
          generalize wS = W
          revert W Y
          exact key.out
        · go_simp
          have HN := Lib.hid (by have h := Blk.new v 66 #[.int .i64 0, .int .i64 0]; (try simp only [World.size_alloc] at h); exact h)
          replace HC := Lib.hid (Blk.alloc (.cells #[.int .i64 0, .int .i64 0] 66) HC.out)
          replace HI := Lib.hid (Ints.alloc (.cells #[.int .i64 0, .int .i64 0] 66) HI.out)
          replace HL := Lib.hid (Prs.alloc (.cells #[.int .i64 0, .int .i64 0] 66) HL.out)
          replace HV := Lib.hid (Bel.alloc HV.out (.cells #[.int .i64 0, .int .i64 0] 66))
          replace HB := Lib.hid (Bel.alloc HB.out (.cells #[.int .i64 0, .int .i64 0] 66))
          refine hK.out _ _ (⟨HC.out, HL.out, HI.out⟩) (fun hHeld => ?_)
          clear hK K
          try simp only [Act.put, List.setIfInBounds_toArray, List.set_cons_zero, List.set_cons_succ]
          refine wpAnyH_ready (rs := [6]) (by kernel_rfl) (by simp) ?_
          refine AllReadyH.cons rfl (fun K hK => ?_) (AllReadyH.nil)
          go_simp
          go_at_call 61; refine (HCP.out _ HI.out).mono ?_; rintro e w9 ⟨rfl, hb9⟩; have hka := Bel.ka HB.out hb9 (by repeat (with_reducible first | exact Below.refl _ _ | refine Bel.alloc ?_ _ | refine Below.drew ?_ | refine Bel.drewN ?_ _)); (try (replace HC := Lib.hid (Blk.step hb9 (Blk.step hka HC.out)))); (try (replace HN := Lib.hid (Blk.step hb9 (Blk.step hka HN.out)))); (try (replace HI := Lib.hid (Ints.step hb9 (Ints.step hka HI.out)))); (try (replace HL := Lib.hid (Prs.step hb9 (Prs.step hka HL.out)))); (try (replace HV := Lib.hid (Bel.step hb9 (Bel.step hka HV.out)))); replace HB := Lib.hid (Bel.step hb9 (Bel.step hka HB.out)); have hsz9 := hb9.size; have hsy9 := hka.size; (try simp only [World.size_alloc, World.size_drew, World.heap_drewN, World.size_setCell] at hsz9 hsy9); clear hka hb9
          refine hK.out _ _ (⟨HC.out, HL.out, HI.out⟩) (fun hHeld => ?_)
          clear hK K
          try simp only [Act.put, List.setIfInBounds_toArray, List.set_cons_zero, List.set_cons_succ]
          refine wpAnyH_take (i := 7) (v := (.tuple #[.agg #[.int .i64 pX, .int .i64 pY], .int .i64 0])) rfl (by kernel_rfl) (by kernel_rfl) (by kernel_rfl) (fun _ _ _ h => h) (Or.inl ⟨by rfl, fun w _ => by simp [go_sem, execOp]⟩) hHeld ?_
          simp only [Act.put, List.getElem_toArray, List.getElem_cons_succ, List.getElem_cons_zero, List.setIfInBounds_toArray, List.set_cons_zero, List.set_cons_succ]
          refine wpAnyH_take (i := 8) (v := (.agg #[.int .i64 pX, .int .i64 pY])) rfl (by kernel_rfl) (by kernel_rfl) (by kernel_rfl) (fun _ _ _ h => h) (Or.inl ⟨by rfl, fun w _ => by simp [go_sem, execOp]⟩) hHeld ?_
          simp only [Act.put, List.getElem_toArray, List.getElem_cons_succ, List.getElem_cons_zero, List.setIfInBounds_toArray, List.set_cons_zero, List.set_cons_succ]
          refine wpAnyH_take (i := 9) (v := (.int .i64 0)) rfl (by kernel_rfl) (by kernel_rfl) (by kernel_rfl) (fun _ _ _ h => h) (Or.inl ⟨by rfl, fun w _ => by simp [go_sem, execOp]⟩) hHeld ?_
          simp only [Act.put, List.getElem_toArray, List.getElem_cons_succ, List.getElem_cons_zero, List.setIfInBounds_toArray, List.set_cons_zero, List.set_cons_succ]
          refine wpAnyH_ready (rs := [11]) (by kernel_rfl) (by simp) ?_
          refine AllReadyH.cons rfl (fun K hK => ?_) AllReadyH.nil
          refine step_store_part 66 _ _ _ 0 (.agg #[.int .i64 pX, .int .i64 pY]) #[.int .i64 pX, .int .i64 pY] (Blk.step (Bel.ka0 HB.out (by repeat (with_reducible first | exact Below.refl _ _ | refine Bel.alloc ?_ _ | refine Below.drew ?_ | refine Bel.drewN ?_ _))) HN.out) rfl rfl rfl rfl rfl (by rfl) (by kernel_rfl) (by simp [Value.oneCell']) (by simp) ?_; intro wS hBS hkb; simp only [setL, List.setIfInBounds_toArray, List.set_cons_zero, List.set_cons_succ] at hBS; have hka := Kp.kab HB.out hkb (by repeat (with_reducible first | exact Below.refl _ _ | refine Bel.alloc ?_ _ | refine Below.drew ?_ | refine Bel.drewN ?_ _)); (try (replace HC := Lib.hid ((Blk.step hka HC.out).kp hkb (by first | omega | (simp; omega))))); (try (replace HI := Lib.hid (Ints.kpB (Ints.step hka HI.out) hkb (by first | omega | (simp; omega))))); (try (replace HL := Lib.hid (Prs.kpB (Prs.step hka HL.out) hkb (by first | omega | (simp; omega))))); (try (replace HV := Lib.hid (Kp.bel hkb (by first | omega | (simp; omega)) (by first | omega | (simp; omega)) (Bel.step hka HV.out)))); replace HB := Lib.hid (Kp.bel hkb (by first | omega | (simp; omega)) (by first | omega | (simp; omega)) (Bel.step hka HB.out)); replace HN := Lib.hid hBS; have hszS := hkb.size_; have hsyS := hka.size; (try simp only [World.size_alloc, World.size_drew, World.heap_drewN, World.size_setCell] at hszS hsyS); clear hBS hka hkb
          refine hK.out _ _ (⟨HC.out, HL.out, HI.out⟩) (fun hHeld => ?_)
          clear hK K
          try simp only [Act.put, List.setIfInBounds_toArray, List.set_cons_zero, List.set_cons_succ]
          refine wpAnyH_take (i := 12) (v := (.int .i64 0)) rfl (by kernel_rfl) (by kernel_rfl) (by kernel_rfl) (fun _ _ _ h => h) (Or.inl ⟨by rfl, fun w _ => by simp [go_sem, execOp]⟩) hHeld ?_
          simp only [Act.put, List.getElem_toArray, List.getElem_cons_succ, List.getElem_cons_zero, List.setIfInBounds_toArray, List.set_cons_zero, List.set_cons_succ]
          refine wpAnyH_done (by kernel_rfl) ?_ _
          exact key.out _ _ HN HV
      · intro Y W HN HV
        replace HC := Lib.hid (Blk.step HV.out HC.out)
        replace HI := Lib.hid (Ints.step HV.out HI.out)
        replace HL := Lib.hid (Prs.step HV.out HL.out)
        replace HL1 := Lib.hid (Prs.step HV.out HL1.out)
        replace HB := Lib.hid (Bel.step HV.out HB.out)
        clear hHeld
        obtain ⟨b, o, hA1, hb, l0, l1⟩ := HL1.out.at_ j hlj
        rw [HLJ.out, ← HPX.out.1] at l0
        rw [HLJ.out, ← HPX.out.2] at l1
        have HA1 := Lib.hid hA1
        subst hA1
        have y0 : W.cell? ⟨Y, 0, none⟩ = some (.int .i64 pX) := HN.out.cell _
        have y1 : W.cell? ⟨Y, 1, none⟩ = some (.int .i64 pY) := HN.out.cell _
        clear HLJ HPX HAT HFT HCP HV HLS HSW HLen
        go_wp2
        go_region_held3 (fun w' => w'.cell? ⟨Y, 0, none⟩ = some (.int .i64 pX) ∧ w'.cell? ⟨Y, 1, none⟩ = some (.int .i64 pY) ∧ w'.cell? ⟨b, o + j * 2, none⟩ = some (.int .i64 pX) ∧ w'.cell? ⟨b, o + j * 2 + 1, none⟩ = some (.int .i64 pY)) (simp [go_sem, *]) (fail)
        go_wp2
        go_roundw
        case rel => exact ⟨j + 1, by omega, by go_num, Lib.hid HC.out.drew, Lib.hid (Ints.drew HI.out), Lib.hid (Prs.drew HL.out), Lib.hid (Prs.drew HL1.out), Lib.hid (Below.drew HB.out)⟩
        case measure => simp [intOf]; omega
  · have dx : (x == 0) = false := by simpa using hx0
    go_wp2
    have hs2 := hs1
    clear HD HU HV HJ HL2 hs1
    generalize w7 = V at HC HI HL HL1 HB hs2 ⊢
    by_cases hk : k = 0
    rotate_left
    · have d1 : (k == 0) = false := by simpa using hk
      go_loopw [20] (fun i wr => i = .int .i64 0 ∧ Hid (Below w'.heap.size w' wr)) (fun i _ => 0)
      case atStart => exact ⟨rfl, HB⟩
      case round =>
        clear HB
        obtain ⟨rfl, HB⟩ := hrel
        go_wp2
        go_ret
        exact ⟨rfl, HB.out⟩
    have hll2 : ls.length = ps.length := HLen.out hk
    have HLL := Lib.hid hll2
    rw [hll2]
    clear hll2
    go_loopw [20] (fun i wr => ∃ j : Nat, j ≤ ps.length ∧ i = .int .i64 j ∧ Hid (Blk wr w1.heap.size 75 #[.int .i64 C.dg, .int .i64 C.tn, .string C.nm, .slice (some ⟨g, 0, none⟩) C.zs.length q, .int .i64 C.wd, .int .i64 C.lf, .int .i64 C.rt]) ∧ Hid (Ints wr (some ⟨g, 0, none⟩) C.zs) ∧ Hid (Prs wr (some ⟨gb, 0, none⟩) ps) ∧ Hid (Prs wr A1 ls) ∧ Hid (Below w'.heap.size w' wr)) (fun i _ => ps.length - (intOf i).toNat)
    case atStart => exact ⟨0, Nat.zero_le _, rfl, HC, HI, HL, HL1, HB⟩
    case round =>
      clear HC HI HL HL1 HB hs2
      obtain ⟨j, hj, rfl, HC, HI, HL, HL1, HB⟩ := hrel
      have hlC := HC.out.lt
      by_cases hlt : j < ps.length
      rotate_left
      · obtain rfl : j = ps.length := by omega
        subst hk
        go_wp2
        go_ret
        exact ⟨rfl, HB.out⟩
      have hat := spq_at (show spqC C sc ps = 0 by rw [← HK.out]; exact hk) hlt
      have HAT := Lib.hid hat
      have hlj : j < ls.length := by have := HLL.out; omega
      have hlsj : ls[j] = (ptX C sc ps[j].1 ps[j].2, ptY C sc ps[j].1 ps[j].2) := by
        have e : ls = ps.map (ptOf C sc) := by rw [HLS.out, spq_list (by rw [← HK.out]; exact hk)]
        subst e
        rw [List.getElem_map, hat.2.1, hat.2.2]
        rfl
      have HLJ := Lib.hid hlsj
      clear hat hlsj
      subst hk
      go_wp2
      have hji : ¬ (ps.length : Int) ≤ j := by omega
      obtain ⟨fd, hfd⟩ : ∃ z, z = ps[j].1 := ⟨_, rfl⟩
      obtain ⟨ft, hft⟩ : ∃ z, z = ps[j].2 := ⟨_, rfl⟩
      rw [← hfd, ← hft] at HAT HLJ
      have HFT := Lib.hid (And.intro hfd hft)
      clear hfd hft
      refine wp_region_held_drew (S := fun V => Blk V w1.heap.size 75 #[.int .i64 C.dg, .int .i64 C.tn, .string C.nm, .slice (some ⟨g, 0, none⟩) C.zs.length q, .int .i64 C.wd, .int .i64 C.lf, .int .i64 C.rt] ∧ Prs V (some ⟨gb, 0, none⟩) ps ∧ Ints V (some ⟨g, 0, none⟩) C.zs) (by kernel_rfl) (⟨HC.out.drew, Prs.drew HL.out, HI.out⟩) (fun hHeld => ?_)
      replace HC := Lib.hid HC.out.drew
      replace HI := Lib.hid (Ints.drew HI.out)
      replace HL := Lib.hid (Prs.drew HL.out)
      replace HL1 := Lib.hid (Prs.drew HL1.out)
      replace HB := Lib.hid (Below.drew HB.out)
      have hsd : wr.drew.heap.size = wr.heap.size := rfl
      rw [← hsd] at hlC
      clear hsd
      generalize wr.drew = v at HC HI HL HL1 HB hHeld hlC ⊢
      have HV := Lib.hid (Below.refl v.heap.size v)
      refine wpAnyH_take (i := 0) (v := .agg #[.int .i64 C.dg, .int .i64 C.tn, .string C.nm, .slice (some ⟨g, 0, none⟩) C.zs.length q, .int .i64 C.wd, .int .i64 C.lf, .int .i64 C.rt]) rfl (by kernel_rfl) (by kernel_rfl) (by kernel_rfl) (fun _ _ _ h => h) (yieldsIf_load_blk 75 _ (w1.heap.size) (fun _ h => h.1) Try.underlying75 (by kernel_rfl) (by rfl) rfl rfl) hHeld ?_
      try simp only [Act.put, List.setIfInBounds_toArray, List.set_cons_zero, List.set_cons_succ]
      refine wpAnyH_take (i := 1) (v := (.int .i64 sc)) rfl (by kernel_rfl) (by kernel_rfl) (by kernel_rfl) (fun _ _ _ h => h) (Or.inl ⟨by rfl, fun w _ => by simp [go_sem, execOp]⟩) hHeld ?_
      simp only [Act.put, List.getElem_toArray, List.getElem_cons_succ, List.getElem_cons_zero, List.setIfInBounds_toArray, List.set_cons_zero, List.set_cons_succ]
      refine wpAnyH_take (i := 2) (v := (.slice (some ⟨gb, 0, none⟩) ps.length cb)) rfl (by kernel_rfl) (by kernel_rfl) (by kernel_rfl) (fun _ _ _ h => h) (Or.inl ⟨by rfl, fun w _ => by simp [go_sem, execOp]⟩) hHeld ?_
      simp only [Act.put, List.getElem_toArray, List.getElem_cons_succ, List.getElem_cons_zero, List.setIfInBounds_toArray, List.set_cons_zero, List.set_cons_succ]
      refine wpAnyH_take (i := 3) (v := (.int .i64 j)) rfl (by kernel_rfl) (by kernel_rfl) (by kernel_rfl) (fun _ _ _ h => h) (Or.inl ⟨by rfl, fun w _ => by simp [go_sem, execOp]⟩) hHeld ?_
      simp only [Act.put, List.getElem_toArray, List.getElem_cons_succ, List.getElem_cons_zero, List.setIfInBounds_toArray, List.set_cons_zero, List.set_cons_succ]
      refine wpAnyH_take (i := 4) (v := (.pointer (some ⟨gb, j * 2, none⟩))) rfl (by kernel_rfl) (by kernel_rfl) (by kernel_rfl) (fun _ _ _ h => h) (Or.inl ⟨by rfl, fun w' h => by simp [go_sem, execOp, hlt, hji]⟩) hHeld ?_
      simp only [Act.put, List.getElem_toArray, List.getElem_cons_succ, List.getElem_cons_zero, List.setIfInBounds_toArray, List.set_cons_zero, List.set_cons_succ]
      refine wpAnyH_take (i := 5) (v := (.agg #[.int .i64 fd, .int .i64 ft])) rfl (by kernel_rfl) (by kernel_rfl) (by kernel_rfl) (fun _ _ _ h => h) (Or.inl ⟨by rfl, fun w' h => by have q0 : w'.cell? ⟨gb, j * 2, none⟩ = some (.int .i64 fd) := (Prs.cells2 h.2.1 j hlt).1.trans (by rw [HFT.out.1]); have q1 : w'.cell? ⟨gb, j * 2 + 1, none⟩ = some (.int .i64 ft) := (Prs.cells2 h.2.1 j hlt).2.trans (by rw [HFT.out.2]); simp [go_sem, execOp, q0, q1]⟩) hHeld ?_
      simp only [Act.put, List.getElem_toArray, List.getElem_cons_succ, List.getElem_cons_zero, List.setIfInBounds_toArray, List.set_cons_zero, List.set_cons_succ]
      obtain ⟨pX, hpX⟩ : ∃ z, z = ptX C sc fd ft := ⟨_, rfl⟩
      obtain ⟨pY, hpY⟩ : ∃ z, z = ptY C sc fd ft := ⟨_, rfl⟩
      have HCP := Lib.hid (fun (W : World) (hI : Ints W (some ⟨g, 0, none⟩) C.zs) => ChartPoint_I C (some ⟨g, 0, none⟩) q sc fd ft hn hm W hI)
      rw [HAT.out.1, ← hpX, ← hpY] at HCP
      have HPX := Lib.hid (And.intro hpX hpY)
      clear hpX hpY
      apply cut_Sc
      · intro key
        refine wpAnyH_ready (rs := [6, 10]) (by kernel_rfl) (by simp) ?_
        refine AllReadyH.cons rfl (fun K hK => ?_) (AllReadyH.cons rfl (fun K hK => ?_) (AllReadyH.nil))
        · go_simp
          go_at_call 61; refine (HCP.out _ HI.out).mono ?_; rintro e w9 ⟨rfl, hb9⟩; have hka := Bel.ka HB.out hb9 (by repeat (with_reducible first | exact Below.refl _ _ | refine Bel.alloc ?_ _ | refine Below.drew ?_ | refine Bel.drewN ?_ _)); (try (replace HC := Lib.hid (Blk.step hb9 (Blk.step hka HC.out)))); (try (replace HI := Lib.hid (Ints.step hb9 (Ints.step hka HI.out)))); (try (replace HL := Lib.hid (Prs.step hb9 (Prs.step hka HL.out)))); (try (replace HV := Lib.hid (Bel.step hb9 (Bel.step hka HV.out)))); replace HB := Lib.hid (Bel.step hb9 (Bel.step hka HB.out)); have hsz9 := hb9.size; have hsy9 := hka.size; (try simp only [World.size_alloc, World.size_drew, World.heap_drewN, World.size_setCell] at hsz9 hsy9); clear hka hb9
          refine hK.out _ _ (⟨HC.out, HL.out, HI.out⟩) (fun hHeld => ?_)
          clear hK K
          try simp only [Act.put, List.setIfInBounds_toArray, List.set_cons_zero, List.set_cons_succ]
          refine wpAnyH_take (i := 7) (v := (.tuple #[.agg #[.int .i64 pX, .int .i64 pY], .int .i64 0])) rfl (by kernel_rfl) (by kernel_rfl) (by kernel_rfl) (fun _ _ _ h => h) (Or.inl ⟨by rfl, fun w _ => by simp [go_sem, execOp]⟩) hHeld ?_
          simp only [Act.put, List.getElem_toArray, List.getElem_cons_succ, List.getElem_cons_zero, List.setIfInBounds_toArray, List.set_cons_zero, List.set_cons_succ]
          refine wpAnyH_take (i := 8) (v := (.agg #[.int .i64 pX, .int .i64 pY])) rfl (by kernel_rfl) (by kernel_rfl) (by kernel_rfl) (fun _ _ _ h => h) (Or.inl ⟨by rfl, fun w _ => by simp [go_sem, execOp]⟩) hHeld ?_
          simp only [Act.put, List.getElem_toArray, List.getElem_cons_succ, List.getElem_cons_zero, List.setIfInBounds_toArray, List.set_cons_zero, List.set_cons_succ]
          refine wpAnyH_take (i := 9) (v := (.int .i64 0)) rfl (by kernel_rfl) (by kernel_rfl) (by kernel_rfl) (fun _ _ _ h => h) (Or.inl ⟨by rfl, fun w _ => by simp [go_sem, execOp]⟩) hHeld ?_
          simp only [Act.put, List.getElem_toArray, List.getElem_cons_succ, List.getElem_cons_zero, List.setIfInBounds_toArray, List.set_cons_zero, List.set_cons_succ]
          refine wpAnyH_ready (rs := [10]) (by kernel_rfl) (by simp) ?_
          refine AllReadyH.cons rfl (fun K hK => ?_) (AllReadyH.nil)
          go_simp
          have HN := Lib.hid (by have h := Blk.new w9 66 #[.int .i64 0, .int .i64 0]; (try simp only [World.size_alloc] at h); exact h)
          replace HC := Lib.hid (Blk.alloc (.cells #[.int .i64 0, .int .i64 0] 66) HC.out)
          replace HI := Lib.hid (Ints.alloc (.cells #[.int .i64 0, .int .i64 0] 66) HI.out)
          replace HL := Lib.hid (Prs.alloc (.cells #[.int .i64 0, .int .i64 0] 66) HL.out)
          replace HV := Lib.hid (Bel.alloc HV.out (.cells #[.int .i64 0, .int .i64 0] 66))
          replace HB := Lib.hid (Bel.alloc HB.out (.cells #[.int .i64 0, .int .i64 0] 66))
          refine hK.out _ _ (⟨HC.out, HL.out, HI.out⟩) (fun hHeld => ?_)
          clear hK K
          try simp only [Act.put, List.setIfInBounds_toArray, List.set_cons_zero, List.set_cons_succ]
          refine wpAnyH_ready (rs := [11]) (by kernel_rfl) (by simp) ?_
          refine AllReadyH.cons rfl (fun K hK => ?_) AllReadyH.nil
          refine step_store_part 66 _ _ _ 0 (.agg #[.int .i64 pX, .int .i64 pY]) #[.int .i64 pX, .int .i64 pY] (Blk.step (Bel.ka0 HB.out (by repeat (with_reducible first | exact Below.refl _ _ | refine Bel.alloc ?_ _ | refine Below.drew ?_ | refine Bel.drewN ?_ _))) HN.out) rfl rfl rfl rfl rfl (by rfl) (by kernel_rfl) (by simp [Value.oneCell']) (by simp) ?_; intro wS hBS hkb; simp only [setL, List.setIfInBounds_toArray, List.set_cons_zero, List.set_cons_succ] at hBS; have hka := Kp.kab HB.out hkb (by repeat (with_reducible first | exact Below.refl _ _ | refine Bel.alloc ?_ _ | refine Below.drew ?_ | refine Bel.drewN ?_ _)); (try (replace HC := Lib.hid ((Blk.step hka HC.out).kp hkb (by first | omega | (simp; omega))))); (try (replace HI := Lib.hid (Ints.kpB (Ints.step hka HI.out) hkb (by first | omega | (simp; omega))))); (try (replace HL := Lib.hid (Prs.kpB (Prs.step hka HL.out) hkb (by first | omega | (simp; omega))))); (try (replace HV := Lib.hid (Kp.bel hkb (by first | omega | (simp; omega)) (by first | omega | (simp; omega)) (Bel.step hka HV.out)))); replace HB := Lib.hid (Kp.bel hkb (by first | omega | (simp; omega)) (by first | omega | (simp; omega)) (Bel.step hka HB.out)); replace HN := Lib.hid hBS; have hszS := hkb.size_; have hsyS := hka.size; (try simp only [World.size_alloc, World.size_drew, World.heap_drewN, World.size_setCell] at hszS hsyS); clear hBS hka hkb
          refine hK.out _ _ (⟨HC.out, HL.out, HI.out⟩) (fun hHeld => ?_)
          clear hK K
          try simp only [Act.put, List.setIfInBounds_toArray, List.set_cons_zero, List.set_cons_succ]
          refine wpAnyH_take (i := 12) (v := (.int .i64 0)) rfl (by kernel_rfl) (by kernel_rfl) (by kernel_rfl) (fun _ _ _ h => h) (Or.inl ⟨by rfl, fun w _ => by simp [go_sem, execOp]⟩) hHeld ?_
          simp only [Act.put, List.getElem_toArray, List.getElem_cons_succ, List.getElem_cons_zero, List.setIfInBounds_toArray, List.set_cons_zero, List.set_cons_succ]
          refine wpAnyH_done (by kernel_rfl) ?_ _
          generalize w9.heap.size = Y at HN ⊢
          clear hHeld
          replace HV := Lib.hid HV.out
          revert HN HV
          generalize wS = W
          revert W Y
          exact key.out
        · go_simp
          have HN := Lib.hid (by have h := Blk.new v 66 #[.int .i64 0, .int .i64 0]; (try simp only [World.size_alloc] at h); exact h)
          replace HC := Lib.hid (Blk.alloc (.cells #[.int .i64 0, .int .i64 0] 66) HC.out)
          replace HI := Lib.hid (Ints.alloc (.cells #[.int .i64 0, .int .i64 0] 66) HI.out)
          replace HL := Lib.hid (Prs.alloc (.cells #[.int .i64 0, .int .i64 0] 66) HL.out)
          replace HV := Lib.hid (Bel.alloc HV.out (.cells #[.int .i64 0, .int .i64 0] 66))
          replace HB := Lib.hid (Bel.alloc HB.out (.cells #[.int .i64 0, .int .i64 0] 66))
          refine hK.out _ _ (⟨HC.out, HL.out, HI.out⟩) (fun hHeld => ?_)
          clear hK K
          try simp only [Act.put, List.setIfInBounds_toArray, List.set_cons_zero, List.set_cons_succ]
          refine wpAnyH_ready (rs := [6]) (by kernel_rfl) (by simp) ?_
          refine AllReadyH.cons rfl (fun K hK => ?_) (AllReadyH.nil)
          go_simp
          go_at_call 61; refine (HCP.out _ HI.out).mono ?_; rintro e w9 ⟨rfl, hb9⟩; have hka := Bel.ka HB.out hb9 (by repeat (with_reducible first | exact Below.refl _ _ | refine Bel.alloc ?_ _ | refine Below.drew ?_ | refine Bel.drewN ?_ _)); (try (replace HC := Lib.hid (Blk.step hb9 (Blk.step hka HC.out)))); (try (replace HN := Lib.hid (Blk.step hb9 (Blk.step hka HN.out)))); (try (replace HI := Lib.hid (Ints.step hb9 (Ints.step hka HI.out)))); (try (replace HL := Lib.hid (Prs.step hb9 (Prs.step hka HL.out)))); (try (replace HV := Lib.hid (Bel.step hb9 (Bel.step hka HV.out)))); replace HB := Lib.hid (Bel.step hb9 (Bel.step hka HB.out)); have hsz9 := hb9.size; have hsy9 := hka.size; (try simp only [World.size_alloc, World.size_drew, World.heap_drewN, World.size_setCell] at hsz9 hsy9); clear hka hb9
          refine hK.out _ _ (⟨HC.out, HL.out, HI.out⟩) (fun hHeld => ?_)
          clear hK K
          try simp only [Act.put, List.setIfInBounds_toArray, List.set_cons_zero, List.set_cons_succ]
          refine wpAnyH_take (i := 7) (v := (.tuple #[.agg #[.int .i64 pX, .int .i64 pY], .int .i64 0])) rfl (by kernel_rfl) (by kernel_rfl) (by kernel_rfl) (fun _ _ _ h => h) (Or.inl ⟨by rfl, fun w _ => by simp [go_sem, execOp]⟩) hHeld ?_
          simp only [Act.put, List.getElem_toArray, List.getElem_cons_succ, List.getElem_cons_zero, List.setIfInBounds_toArray, List.set_cons_zero, List.set_cons_succ]
          refine wpAnyH_take (i := 8) (v := (.agg #[.int .i64 pX, .int .i64 pY])) rfl (by kernel_rfl) (by kernel_rfl) (by kernel_rfl) (fun _ _ _ h => h) (Or.inl ⟨by rfl, fun w _ => by simp [go_sem, execOp]⟩) hHeld ?_
          simp only [Act.put, List.getElem_toArray, List.getElem_cons_succ, List.getElem_cons_zero, List.setIfInBounds_toArray, List.set_cons_zero, List.set_cons_succ]
          refine wpAnyH_take (i := 9) (v := (.int .i64 0)) rfl (by kernel_rfl) (by kernel_rfl) (by kernel_rfl) (fun _ _ _ h => h) (Or.inl ⟨by rfl, fun w _ => by simp [go_sem, execOp]⟩) hHeld ?_
          simp only [Act.put, List.getElem_toArray, List.getElem_cons_succ, List.getElem_cons_zero, List.setIfInBounds_toArray, List.set_cons_zero, List.set_cons_succ]
          refine wpAnyH_ready (rs := [11]) (by kernel_rfl) (by simp) ?_
          refine AllReadyH.cons rfl (fun K hK => ?_) AllReadyH.nil
          refine step_store_part 66 _ _ _ 0 (.agg #[.int .i64 pX, .int .i64 pY]) #[.int .i64 pX, .int .i64 pY] (Blk.step (Bel.ka0 HB.out (by repeat (with_reducible first | exact Below.refl _ _ | refine Bel.alloc ?_ _ | refine Below.drew ?_ | refine Bel.drewN ?_ _))) HN.out) rfl rfl rfl rfl rfl (by rfl) (by kernel_rfl) (by simp [Value.oneCell']) (by simp) ?_; intro wS hBS hkb; simp only [setL, List.setIfInBounds_toArray, List.set_cons_zero, List.set_cons_succ] at hBS; have hka := Kp.kab HB.out hkb (by repeat (with_reducible first | exact Below.refl _ _ | refine Bel.alloc ?_ _ | refine Below.drew ?_ | refine Bel.drewN ?_ _)); (try (replace HC := Lib.hid ((Blk.step hka HC.out).kp hkb (by first | omega | (simp; omega))))); (try (replace HI := Lib.hid (Ints.kpB (Ints.step hka HI.out) hkb (by first | omega | (simp; omega))))); (try (replace HL := Lib.hid (Prs.kpB (Prs.step hka HL.out) hkb (by first | omega | (simp; omega))))); (try (replace HV := Lib.hid (Kp.bel hkb (by first | omega | (simp; omega)) (by first | omega | (simp; omega)) (Bel.step hka HV.out)))); replace HB := Lib.hid (Kp.bel hkb (by first | omega | (simp; omega)) (by first | omega | (simp; omega)) (Bel.step hka HB.out)); replace HN := Lib.hid hBS; have hszS := hkb.size_; have hsyS := hka.size; (try simp only [World.size_alloc, World.size_drew, World.heap_drewN, World.size_setCell] at hszS hsyS); clear hBS hka hkb
          refine hK.out _ _ (⟨HC.out, HL.out, HI.out⟩) (fun hHeld => ?_)
          clear hK K
          try simp only [Act.put, List.setIfInBounds_toArray, List.set_cons_zero, List.set_cons_succ]
          refine wpAnyH_take (i := 12) (v := (.int .i64 0)) rfl (by kernel_rfl) (by kernel_rfl) (by kernel_rfl) (fun _ _ _ h => h) (Or.inl ⟨by rfl, fun w _ => by simp [go_sem, execOp]⟩) hHeld ?_
          simp only [Act.put, List.getElem_toArray, List.getElem_cons_succ, List.getElem_cons_zero, List.setIfInBounds_toArray, List.set_cons_zero, List.set_cons_succ]
          refine wpAnyH_done (by kernel_rfl) ?_ _
          exact key.out _ _ HN HV
      · intro Y W HN HV
        replace HC := Lib.hid (Blk.step HV.out HC.out)
        replace HI := Lib.hid (Ints.step HV.out HI.out)
        replace HL := Lib.hid (Prs.step HV.out HL.out)
        replace HL1 := Lib.hid (Prs.step HV.out HL1.out)
        replace HB := Lib.hid (Bel.step HV.out HB.out)
        clear hHeld
        obtain ⟨b, o, hA1, hb, l0, l1⟩ := HL1.out.at_ j hlj
        rw [HLJ.out, ← HPX.out.1] at l0
        rw [HLJ.out, ← HPX.out.2] at l1
        have HA1 := Lib.hid hA1
        subst hA1
        have y0 : W.cell? ⟨Y, 0, none⟩ = some (.int .i64 pX) := HN.out.cell _
        have y1 : W.cell? ⟨Y, 1, none⟩ = some (.int .i64 pY) := HN.out.cell _
        clear HLJ HPX HAT HFT HCP HV HLS HSW HLen
        go_wp2
        go_region_held3 (fun w' => w'.cell? ⟨Y, 0, none⟩ = some (.int .i64 pX) ∧ w'.cell? ⟨Y, 1, none⟩ = some (.int .i64 pY) ∧ w'.cell? ⟨b, o + j * 2, none⟩ = some (.int .i64 pX) ∧ w'.cell? ⟨b, o + j * 2 + 1, none⟩ = some (.int .i64 pY)) (simp [go_sem, *]) (fail)
        go_wp2
        go_roundw
        case rel => exact ⟨j + 1, by omega, by go_num, Lib.hid HC.out.drew, Lib.hid (Ints.drew HI.out), Lib.hid (Prs.drew HL.out), Lib.hid (Prs.drew HL1.out), Lib.hid (Below.drew HB.out)⟩
        case measure => simp [intOf]; omega
end Go.Proofs.Ythfphjbaglgacaa
