/- The statement FnOthers, walked. No conditions. -/
import Derived.Test.YthfphjbaglgacaaProg
import Derived.Test.YthfphjbaglgacaaBase
import Derived.Test.YthfphjbaglgacaaRw
import Derived.Test.YthfphjbaglgacaaRg
import Derived.Test.YthfphjbaglgacaaL01
import Derived.Test.YthfphjbaglgacaaCp
import Derived.Test.YthfphjbaglgacaaL18
import Derived.Test.YthfphjbaglgacaaL23
import Derived.Test.YthfphjbaglgacaaL03
import Derived.Test.YthfphjbaglgacaaL24
import Derived.Test.YthfphjbaglgacaaL24b
import Derived.Test.YthfphjbaglgacaaL04
import Derived.Test.YthfphjbaglgacaaL24o
import Derived.Test.YthfphjbaglgacaaM24
import Derived.Test.YthfphjbaglgacaaE24
import Derived.Test.YthfphjbaglgacaaE24q
import Derived.Test.YthfphjbaglgacaaD00
import Derived.Test.YthfphjbaglgacaaD01
import Derived.Test.YthfphjbaglgacaaD24
import Derived.WalkKit
import Derived.WalkSpells
import Derived.WalkLawsBesides
import Derived.Lib.Hide
import Derived.Deep.QuietTactic
import Derived.BigQuiet
import Derived.Deep.Draws
import Derived.Deep.RegionHeld3
import Derived.Deep.Cut
namespace Go.Proofs.Ythfphjbaglgacaa
open Go.RowKit
set_option linter.unusedVariables false
set_option linter.unusedSimpArgs false
structure BoxO (P : Prop) : Prop where
  out : P
theorem cut_O {G : Prop} (P : Prop) (k : BoxO P → G) (h : P) : G := k ⟨h⟩
set_option maxRecDepth 50000 in
set_option maxHeartbeats 40000000 in
theorem FnOthers_w (w : World) (A : Option Addr) (c : Nat) (zs : List Int) (hl : zs.length ≤ 9223372036854775807) (hA : Byts w A zs) :
    Calls Try.prog 6 #[.slice A zs.length c] w fun e w' => e = .returned (.bool true) ∧ Below w.heap.size w w' := by
  have HB := Lib.hid (Below.refl w.heap.size w)
  by_cases hz : zs.length ≤ 4096
  rotate_left
  · go_enter Try.func6, Try.ntmps6
    go_wp2_with fail
    go_at_call 9; refine (big_yes A c zs.length (by omega) _).mono ?_; rintro e w' ⟨rfl, rfl⟩
    go_wp2
    go_ret
    exact ⟨rfl, HB.out⟩
  have HA := Lib.hid hA
  clear hA hl
  go_enter Try.func6, Try.ntmps6
  go_wp2_with fail
  go_at_call 9; refine (big_no A c zs.length hz _).mono ?_; rintro e w' ⟨rfl, rfl⟩
  go_wp2_with fail
  go_at_call 47; refine (DrawFindOther_c A c zs hz _ HA.out).mono ?_; rintro e w1 ⟨C, g, q, ud, ut, xd, xt, x, rfl, hn0, hm0, hO, hb1⟩; have hka := Bel.ka HB.out hb1 (by repeat (with_reducible first | exact Below.refl _ _ | refine Bel.alloc ?_ _ | refine Below.drew ?_ | refine Bel.drewN ?_ _)); replace HB := Lib.hid (Bel.step hb1 (Bel.step hka HB.out)); have hsz1 := hb1.size; have hsy1 := hka.size; (try simp only [World.size_alloc, World.size_drew, World.heap_drewN, World.size_setCell] at hsz1 hsy1); clear hka hb1
  have HI := Lib.hid hO.ints
  have hgl : g < w1.heap.size := (World.ownsRow.lt hO g rfl).2
  have hn : C.zs.length ≤ 1048576 := by omega
  have hm : C.nm.size ≤ 1048576 := by omega
  clear hO hn0 hm0 HA
  have HC := Lib.hid (by have h := Blk.new w1 75 #[.int .i64 C.dg, .int .i64 C.tn, .string C.nm, .slice (some ⟨g, 0, none⟩) C.zs.length q, .int .i64 C.wd, .int .i64 C.lf, .int .i64 C.rt]; (try simp only [World.size_alloc] at h); exact h)
  replace HI := Lib.hid (Ints.alloc (.cells #[.int .i64 C.dg, .int .i64 C.tn, .string C.nm, .slice (some ⟨g, 0, none⟩) C.zs.length q, .int .i64 C.wd, .int .i64 C.lf, .int .i64 C.rt] 75) HI.out)
  replace HB := Lib.hid (Bel.alloc HB.out (.cells #[.int .i64 C.dg, .int .i64 C.tn, .string C.nm, .slice (some ⟨g, 0, none⟩) C.zs.length q, .int .i64 C.wd, .int .i64 C.lf, .int .i64 C.rt] 75))
  have HU := Lib.hid (by have h := Blk.new (w1.alloc (.cells #[.int .i64 C.dg, .int .i64 C.tn, .string C.nm, .slice (some ⟨g, 0, none⟩) C.zs.length q, .int .i64 C.wd, .int .i64 C.lf, .int .i64 C.rt] 75)) 71 #[.int .i64 ud, .int .i64 ut]; (try simp only [World.size_alloc] at h); exact h)
  replace HC := Lib.hid (Blk.alloc (.cells #[.int .i64 ud, .int .i64 ut] 71) HC.out)
  replace HI := Lib.hid (Ints.alloc (.cells #[.int .i64 ud, .int .i64 ut] 71) HI.out)
  replace HB := Lib.hid (Bel.alloc HB.out (.cells #[.int .i64 ud, .int .i64 ut] 71))
  have HV := Lib.hid (by have h := Blk.new ((w1.alloc (.cells #[.int .i64 C.dg, .int .i64 C.tn, .string C.nm, .slice (some ⟨g, 0, none⟩) C.zs.length q, .int .i64 C.wd, .int .i64 C.lf, .int .i64 C.rt] 75)).alloc (.cells #[.int .i64 ud, .int .i64 ut] 71)) 71 #[.int .i64 xd, .int .i64 xt]; (try simp only [World.size_alloc] at h); exact h)
  replace HC := Lib.hid (Blk.alloc (.cells #[.int .i64 xd, .int .i64 xt] 71) HC.out)
  replace HU := Lib.hid (Blk.alloc (.cells #[.int .i64 xd, .int .i64 xt] 71) HU.out)
  replace HI := Lib.hid (Ints.alloc (.cells #[.int .i64 xd, .int .i64 xt] 71) HI.out)
  replace HB := Lib.hid (Bel.alloc HB.out (.cells #[.int .i64 xd, .int .i64 xt] 71))
  go_wp2_with (first | (refine wpList_load_blkG 75 _ _ (Blk.step (Bel.ka0 HB.out (by repeat (with_reducible first | exact Below.refl _ _ | refine Bel.alloc ?_ _ | refine Below.drew ?_ | refine Bel.drewN ?_ _))) HC.out) Try.underlying75 (by kernel_rfl) rfl rfl (by rfl) ?_) | (refine wpList_load_blkG 71 _ _ (Blk.step (Bel.ka0 HB.out (by repeat (with_reducible first | exact Below.refl _ _ | refine Bel.alloc ?_ _ | refine Below.drew ?_ | refine Bel.drewN ?_ _))) HU.out) Try.underlying71 (by kernel_rfl) rfl rfl (by rfl) ?_) | (refine wpList_load_blkG 71 _ _ (Blk.step (Bel.ka0 HB.out (by repeat (with_reducible first | exact Below.refl _ _ | refine Bel.alloc ?_ _ | refine Below.drew ?_ | refine Bel.drewN ?_ _))) HV.out) Try.underlying71 (by kernel_rfl) rfl rfl (by rfl) ?_))
  go_at_call 48; refine (FindOther_I C _ _ ud ut xd xt x hn hm _ (by repeat (with_reducible first | exact HI.out | assumption | refine Ints.drew ?_ | refine Ints.drewN _ ?_ | refine Ints.alloc _ ?_ | refine Ints.step (by assumption) ?_))).mono ?_; rintro e w2 ⟨rfl, hb2⟩; have hka := Bel.ka HB.out hb2 (by repeat (with_reducible first | exact Below.refl _ _ | refine Bel.alloc ?_ _ | refine Below.drew ?_ | refine Bel.drewN ?_ _)); (try (replace HC := Lib.hid (Blk.step hb2 (Blk.step hka HC.out)))); (try (replace HU := Lib.hid (Blk.step hb2 (Blk.step hka HU.out)))); (try (replace HV := Lib.hid (Blk.step hb2 (Blk.step hka HV.out)))); (try (replace HI := Lib.hid (Ints.step hb2 (Ints.step hka HI.out)))); replace HB := Lib.hid (Bel.step hb2 (Bel.step hka HB.out)); have hsz2 := hb2.size; have hsy2 := hka.size; (try simp only [World.size_alloc, World.size_drew, World.heap_drewN, World.size_setCell] at hsz2 hsy2); clear hka hb2
  obtain ⟨k, hk⟩ : ∃ k, k = foC C ud ut xd xt x := ⟨_, rfl⟩
  obtain ⟨aL, haL⟩ : ∃ k, k = foL C ud ut xd xt x := ⟨_, rfl⟩
  obtain ⟨aH, haH⟩ : ∃ k, k = foH C ud ut xd xt x := ⟨_, rfl⟩
  rw [← hk, ← haL, ← haH]
  have HK := Lib.hid hk
  have HaL := Lib.hid haL
  have HaH := Lib.hid haH
  clear hk haL haH
  have HX := Lib.hid (by have h := Blk.new w2 79 #[.int .i64 aL, .int .i64 aH]; (try simp only [World.size_alloc] at h); exact h)
  replace HC := Lib.hid (Blk.alloc (.cells #[.int .i64 aL, .int .i64 aH] 79) HC.out)
  replace HU := Lib.hid (Blk.alloc (.cells #[.int .i64 aL, .int .i64 aH] 79) HU.out)
  replace HV := Lib.hid (Blk.alloc (.cells #[.int .i64 aL, .int .i64 aH] 79) HV.out)
  replace HI := Lib.hid (Ints.alloc (.cells #[.int .i64 aL, .int .i64 aH] 79) HI.out)
  replace HB := Lib.hid (Bel.alloc HB.out (.cells #[.int .i64 aL, .int .i64 aH] 79))
  go_wp2_with (first | (refine wpList_load_blkG 75 _ _ (Blk.step (Bel.ka0 HB.out (by repeat (with_reducible first | exact Below.refl _ _ | refine Bel.alloc ?_ _ | refine Below.drew ?_ | refine Bel.drewN ?_ _))) HC.out) Try.underlying75 (by kernel_rfl) rfl rfl (by rfl) ?_) | (refine wpList_load_blkG 71 _ _ (Blk.step (Bel.ka0 HB.out (by repeat (with_reducible first | exact Below.refl _ _ | refine Bel.alloc ?_ _ | refine Below.drew ?_ | refine Bel.drewN ?_ _))) HU.out) Try.underlying71 (by kernel_rfl) rfl rfl (by rfl) ?_) | (refine wpList_load_blkG 71 _ _ (Blk.step (Bel.ka0 HB.out (by repeat (with_reducible first | exact Below.refl _ _ | refine Bel.alloc ?_ _ | refine Below.drew ?_ | refine Bel.drewN ?_ _))) HV.out) Try.underlying71 (by kernel_rfl) rfl rfl (by rfl) ?_))
  go_at_call 49; refine (FindOther_S C _ _ ud ut xd xt x hn hm _ (by repeat (with_reducible first | exact HI.out | assumption | refine Ints.drew ?_ | refine Ints.drewN _ ?_ | refine Ints.alloc _ ?_ | refine Ints.step (by assumption) ?_))).mono ?_; rintro e w3 ⟨rfl, hb3⟩; have hka := Bel.ka HB.out hb3 (by repeat (with_reducible first | exact Below.refl _ _ | refine Bel.alloc ?_ _ | refine Below.drew ?_ | refine Bel.drewN ?_ _)); (try (replace HC := Lib.hid (Blk.step hb3 (Blk.step hka HC.out)))); (try (replace HU := Lib.hid (Blk.step hb3 (Blk.step hka HU.out)))); (try (replace HV := Lib.hid (Blk.step hb3 (Blk.step hka HV.out)))); (try (replace HX := Lib.hid (Blk.step hb3 (Blk.step hka HX.out)))); (try (replace HI := Lib.hid (Ints.step hb3 (Ints.step hka HI.out)))); replace HB := Lib.hid (Bel.step hb3 (Bel.step hka HB.out)); have hsz3 := hb3.size; have hsy3 := hka.size; (try simp only [World.size_alloc, World.size_drew, World.heap_drewN, World.size_setCell] at hsz3 hsy3); clear hka hb3
  rw [← HK.out, ← HaL.out, ← HaH.out]
  have HX2 := Lib.hid (by have h := Blk.new w3 79 #[.int .i64 aL, .int .i64 aH]; (try simp only [World.size_alloc] at h); exact h)
  replace HC := Lib.hid (Blk.alloc (.cells #[.int .i64 aL, .int .i64 aH] 79) HC.out)
  replace HU := Lib.hid (Blk.alloc (.cells #[.int .i64 aL, .int .i64 aH] 79) HU.out)
  replace HV := Lib.hid (Blk.alloc (.cells #[.int .i64 aL, .int .i64 aH] 79) HV.out)
  replace HX := Lib.hid (Blk.alloc (.cells #[.int .i64 aL, .int .i64 aH] 79) HX.out)
  replace HI := Lib.hid (Ints.alloc (.cells #[.int .i64 aL, .int .i64 aH] 79) HI.out)
  replace HB := Lib.hid (Bel.alloc HB.out (.cells #[.int .i64 aL, .int .i64 aH] 79))
  go_upto_region 8 with (first | (refine wpList_load_blkG 79 _ _ HX.out Try.underlying79 (by kernel_rfl) rfl rfl (by rfl) ?_) | (refine wpList_load_blkG 79 _ _ HX2.out Try.underlying79 (by kernel_rfl) rfl rfl (by rfl) ?_))
  by_cases hk : k = 0
  rotate_left
  · have d1 : (k != 0) = true := by simpa using hk
    go_wp2
    go_ret
    exact ⟨rfl, HB.out⟩
  have hF := ot_facts (show foC C ud ut xd xt x = 0 by rw [← HK.out]; exact hk)
  have HF := Lib.hid hF
  have HE := Lib.hid hF.c0
  subst hk
  clear hF
  go_wp2_with (first | (refine wpList_load_blkG 75 _ _ (Blk.step (Bel.ka0 HB.out (by repeat (with_reducible first | exact Below.refl _ _ | refine Bel.alloc ?_ _ | refine Below.drew ?_ | refine Bel.drewN ?_ _))) HC.out) Try.underlying75 (by kernel_rfl) rfl rfl (by rfl) ?_) | (refine wpList_load_blkG 71 _ _ (Blk.step (Bel.ka0 HB.out (by repeat (with_reducible first | exact Below.refl _ _ | refine Bel.alloc ?_ _ | refine Below.drew ?_ | refine Bel.drewN ?_ _))) HU.out) Try.underlying71 (by kernel_rfl) rfl rfl (by rfl) ?_) | (refine wpList_load_blkG 71 _ _ (Blk.step (Bel.ka0 HB.out (by repeat (with_reducible first | exact Below.refl _ _ | refine Bel.alloc ?_ _ | refine Below.drew ?_ | refine Bel.drewN ?_ _))) HV.out) Try.underlying71 (by kernel_rfl) rfl rfl (by rfl) ?_))
  go_at_call 48; refine (FindOther_I C _ _ ud ut xd xt 0 hn hm _ (by repeat (with_reducible first | exact HI.out | assumption | refine Ints.drew ?_ | refine Ints.drewN _ ?_ | refine Ints.alloc _ ?_ | refine Ints.step (by assumption) ?_))).mono ?_; rintro e w4 ⟨rfl, hb4⟩; have hka := Bel.ka HB.out hb4 (by repeat (with_reducible first | exact Below.refl _ _ | refine Bel.alloc ?_ _ | refine Below.drew ?_ | refine Bel.drewN ?_ _)); (try (replace HC := Lib.hid (Blk.step hb4 (Blk.step hka HC.out)))); (try (replace HU := Lib.hid (Blk.step hb4 (Blk.step hka HU.out)))); (try (replace HV := Lib.hid (Blk.step hb4 (Blk.step hka HV.out)))); (try (replace HX := Lib.hid (Blk.step hb4 (Blk.step hka HX.out)))); (try (replace HI := Lib.hid (Ints.step hb4 (Ints.step hka HI.out)))); replace HB := Lib.hid (Bel.step hb4 (Bel.step hka HB.out)); have hsz4 := hb4.size; have hsy4 := hka.size; (try simp only [World.size_alloc, World.size_drew, World.heap_drewN, World.size_setCell] at hsz4 hsy4); clear hka hb4
  rw [HE.out]
  obtain ⟨lL, haL⟩ : ∃ k, k = foL C ud ut xd xt 0 := ⟨_, rfl⟩
  obtain ⟨lH, haH⟩ : ∃ k, k = foH C ud ut xd xt 0 := ⟨_, rfl⟩
  rw [← haL, ← haH]
  have HlL := Lib.hid haL
  have HlH := Lib.hid haH
  clear haL haH
  have HW := Lib.hid (by have h := Blk.new w4 79 #[.int .i64 lL, .int .i64 lH]; (try simp only [World.size_alloc] at h); exact h)
  replace HC := Lib.hid (Blk.alloc (.cells #[.int .i64 lL, .int .i64 lH] 79) HC.out)
  replace HU := Lib.hid (Blk.alloc (.cells #[.int .i64 lL, .int .i64 lH] 79) HU.out)
  replace HV := Lib.hid (Blk.alloc (.cells #[.int .i64 lL, .int .i64 lH] 79) HV.out)
  replace HX := Lib.hid (Blk.alloc (.cells #[.int .i64 lL, .int .i64 lH] 79) HX.out)
  replace HI := Lib.hid (Ints.alloc (.cells #[.int .i64 lL, .int .i64 lH] 79) HI.out)
  replace HB := Lib.hid (Bel.alloc HB.out (.cells #[.int .i64 lL, .int .i64 lH] 79))
  have i3 : aL ≤ lL := by rw [HaL.out, HlL.out]; exact HF.out.lo0
  have i4 : lH ≤ aH := by rw [HaH.out, HlH.out]; exact HF.out.hi0
  have i5 : aL ≤ aH := by rw [HaL.out, HaH.out]; exact HF.out.le
  have i6 : -10000000000 ≤ aL := by rw [HaL.out]; exact HF.out.bl
  have i7 : aH ≤ 10000000000 := by rw [HaH.out]; exact HF.out.bh
  go_wp2_with (first | (refine wpList_load_blkG 79 _ _ (Blk.step (Bel.ka0 HB.out (by repeat (with_reducible first | exact Below.refl _ _ | refine Bel.alloc ?_ _ | refine Below.drew ?_ | refine Bel.drewN ?_ _))) HX.out) Try.underlying79 (by kernel_rfl) rfl rfl (by rfl) ?_) | (refine wpList_load_blkG 79 _ _ (Blk.step (Bel.ka0 HB.out (by repeat (with_reducible first | exact Below.refl _ _ | refine Bel.alloc ?_ _ | refine Below.drew ?_ | refine Bel.drewN ?_ _))) HW.out) Try.underlying79 (by kernel_rfl) rfl rfl (by rfl) ?_))
  go_at_call 50; refine (inside_c lL lH aL aH i3 i4 _).mono ?_; rintro e w5 ⟨rfl, hb5⟩; have hka := Bel.ka HB.out hb5 (by repeat (with_reducible first | exact Below.refl _ _ | refine Bel.alloc ?_ _ | refine Below.drew ?_ | refine Bel.drewN ?_ _)); (try (replace HC := Lib.hid (Blk.step hb5 (Blk.step hka HC.out)))); (try (replace HU := Lib.hid (Blk.step hb5 (Blk.step hka HU.out)))); (try (replace HV := Lib.hid (Blk.step hb5 (Blk.step hka HV.out)))); (try (replace HX := Lib.hid (Blk.step hb5 (Blk.step hka HX.out)))); (try (replace HI := Lib.hid (Ints.step hb5 (Ints.step hka HI.out)))); replace HB := Lib.hid (Bel.step hb5 (Bel.step hka HB.out)); have hsz5 := hb5.size; have hsy5 := hka.size; (try simp only [World.size_alloc, World.size_drew, World.heap_drewN, World.size_setCell] at hsz5 hsy5); clear hka hb5
  have x0 : w5.cell? ⟨w2.heap.size, 0, none⟩ = some (.int .i64 aL) := HX.out.cell _
  have x1 : w5.cell? ⟨w2.heap.size, 1, none⟩ = some (.int .i64 aH) := HX.out.cell _
  go_wp2_with (first | (refine wpList_load_blkG 71 _ _ (Blk.step (Bel.ka0 HB.out (by repeat (with_reducible first | exact Below.refl _ _ | refine Bel.alloc ?_ _ | refine Below.drew ?_ | refine Bel.drewN ?_ _))) HV.out) Try.underlying71 (by kernel_rfl) rfl rfl (by rfl) ?_))
  go_at_call 51; refine (FigureLog_I xd xt HF.out.x _).mono ?_; rintro e w6 ⟨rfl, hb6⟩; have hka := Bel.ka HB.out hb6 (by repeat (with_reducible first | exact Below.refl _ _ | refine Bel.alloc ?_ _ | refine Below.drew ?_ | refine Bel.drewN ?_ _)); (try (replace HC := Lib.hid (Blk.step hb6 (Blk.step hka HC.out)))); (try (replace HU := Lib.hid (Blk.step hb6 (Blk.step hka HU.out)))); (try (replace HV := Lib.hid (Blk.step hb6 (Blk.step hka HV.out)))); (try (replace HX := Lib.hid (Blk.step hb6 (Blk.step hka HX.out)))); (try (replace HI := Lib.hid (Ints.step hb6 (Ints.step hka HI.out)))); replace HB := Lib.hid (Bel.step hb6 (Bel.step hka HB.out)); have hsz6 := hb6.size; have hsy6 := hka.size; (try simp only [World.size_alloc, World.size_drew, World.heap_drewN, World.size_setCell] at hsz6 hsy6); clear hka hb6
  clear x0 x1
  obtain ⟨fx, hfx⟩ := okF_iff HF.out.x
  have HZ := Lib.hid (by have h := Blk.new w6 79 #[.int .i64 (fgLo xd xt), .int .i64 (fgHi xd xt)]; (try simp only [World.size_alloc] at h); exact h)
  replace HC := Lib.hid (Blk.alloc (.cells #[.int .i64 (fgLo xd xt), .int .i64 (fgHi xd xt)] 79) HC.out)
  replace HU := Lib.hid (Blk.alloc (.cells #[.int .i64 (fgLo xd xt), .int .i64 (fgHi xd xt)] 79) HU.out)
  replace HV := Lib.hid (Blk.alloc (.cells #[.int .i64 (fgLo xd xt), .int .i64 (fgHi xd xt)] 79) HV.out)
  replace HX := Lib.hid (Blk.alloc (.cells #[.int .i64 (fgLo xd xt), .int .i64 (fgHi xd xt)] 79) HX.out)
  replace HI := Lib.hid (Ints.alloc (.cells #[.int .i64 (fgLo xd xt), .int .i64 (fgHi xd xt)] 79) HI.out)
  replace HB := Lib.hid (Bel.alloc HB.out (.cells #[.int .i64 (fgLo xd xt), .int .i64 (fgHi xd xt)] 79))
  have p0 : (w6.alloc (.cells #[.int .i64 (fgLo xd xt), .int .i64 (fgHi xd xt)] 79)).cell? ⟨w1.heap.size, 0, none⟩ = some (.int .i64 C.dg) := HC.out.cell _
  have p1 : (w6.alloc (.cells #[.int .i64 (fgLo xd xt), .int .i64 (fgHi xd xt)] 79)).cell? ⟨w1.heap.size, 1, none⟩ = some (.int .i64 C.tn) := HC.out.cell _
  go_wp2_with fail
  go_at_call 51; refine (FigureLog_I C.dg C.tn (okCh_fac HF.out.ok) _).mono ?_; rintro e w7 ⟨rfl, hb7⟩; have hka := Bel.ka HB.out hb7 (by repeat (with_reducible first | exact Below.refl _ _ | refine Bel.alloc ?_ _ | refine Below.drew ?_ | refine Bel.drewN ?_ _)); (try (replace HC := Lib.hid (Blk.step hb7 (Blk.step hka HC.out)))); (try (replace HU := Lib.hid (Blk.step hb7 (Blk.step hka HU.out)))); (try (replace HV := Lib.hid (Blk.step hb7 (Blk.step hka HV.out)))); (try (replace HX := Lib.hid (Blk.step hb7 (Blk.step hka HX.out)))); (try (replace HZ := Lib.hid (Blk.step hb7 (Blk.step hka HZ.out)))); (try (replace HI := Lib.hid (Ints.step hb7 (Ints.step hka HI.out)))); replace HB := Lib.hid (Bel.step hb7 (Bel.step hka HB.out)); have hsz7 := hb7.size; have hsy7 := hka.size; (try simp only [World.size_alloc, World.size_drew, World.heap_drewN, World.size_setCell] at hsz7 hsy7); clear hka hb7
  clear p0 p1
  have HF7 := Lib.hid (by have h := Blk.new w7 79 #[.int .i64 (fgLo C.dg C.tn), .int .i64 (fgHi C.dg C.tn)]; (try simp only [World.size_alloc] at h); exact h)
  replace HC := Lib.hid (Blk.alloc (.cells #[.int .i64 (fgLo C.dg C.tn), .int .i64 (fgHi C.dg C.tn)] 79) HC.out)
  replace HU := Lib.hid (Blk.alloc (.cells #[.int .i64 (fgLo C.dg C.tn), .int .i64 (fgHi C.dg C.tn)] 79) HU.out)
  replace HV := Lib.hid (Blk.alloc (.cells #[.int .i64 (fgLo C.dg C.tn), .int .i64 (fgHi C.dg C.tn)] 79) HV.out)
  replace HX := Lib.hid (Blk.alloc (.cells #[.int .i64 (fgLo C.dg C.tn), .int .i64 (fgHi C.dg C.tn)] 79) HX.out)
  replace HZ := Lib.hid (Blk.alloc (.cells #[.int .i64 (fgLo C.dg C.tn), .int .i64 (fgHi C.dg C.tn)] 79) HZ.out)
  replace HI := Lib.hid (Ints.alloc (.cells #[.int .i64 (fgLo C.dg C.tn), .int .i64 (fgHi C.dg C.tn)] 79) HI.out)
  replace HB := Lib.hid (Bel.alloc HB.out (.cells #[.int .i64 (fgLo C.dg C.tn), .int .i64 (fgHi C.dg C.tn)] 79))
  go_wp2_with (first | (refine wpList_load_blkG 71 _ _ (Blk.step (Bel.ka0 HB.out (by repeat (with_reducible first | exact Below.refl _ _ | refine Bel.alloc ?_ _ | refine Below.drew ?_ | refine Bel.drewN ?_ _))) HU.out) Try.underlying71 (by kernel_rfl) rfl rfl (by rfl) ?_))
  go_at_call 51; refine (FigureLog_I ud ut HF.out.u _).mono ?_; rintro e w8 ⟨rfl, hb8⟩; have hka := Bel.ka HB.out hb8 (by repeat (with_reducible first | exact Below.refl _ _ | refine Bel.alloc ?_ _ | refine Below.drew ?_ | refine Bel.drewN ?_ _)); (try (replace HC := Lib.hid (Blk.step hb8 (Blk.step hka HC.out)))); (try (replace HU := Lib.hid (Blk.step hb8 (Blk.step hka HU.out)))); (try (replace HV := Lib.hid (Blk.step hb8 (Blk.step hka HV.out)))); (try (replace HX := Lib.hid (Blk.step hb8 (Blk.step hka HX.out)))); (try (replace HZ := Lib.hid (Blk.step hb8 (Blk.step hka HZ.out)))); (try (replace HF7 := Lib.hid (Blk.step hb8 (Blk.step hka HF7.out)))); (try (replace HI := Lib.hid (Ints.step hb8 (Ints.step hka HI.out)))); replace HB := Lib.hid (Bel.step hb8 (Bel.step hka HB.out)); have hsz8 := hb8.size; have hsy8 := hka.size; (try simp only [World.size_alloc, World.size_drew, World.heap_drewN, World.size_setCell] at hsz8 hsy8); clear hka hb8
  have HG := Lib.hid (by have h := Blk.new w8 79 #[.int .i64 (fgLo ud ut), .int .i64 (fgHi ud ut)]; (try simp only [World.size_alloc] at h); exact h)
  replace HC := Lib.hid (Blk.alloc (.cells #[.int .i64 (fgLo ud ut), .int .i64 (fgHi ud ut)] 79) HC.out)
  replace HX := Lib.hid (Blk.alloc (.cells #[.int .i64 (fgLo ud ut), .int .i64 (fgHi ud ut)] 79) HX.out)
  replace HZ := Lib.hid (Blk.alloc (.cells #[.int .i64 (fgLo ud ut), .int .i64 (fgHi ud ut)] 79) HZ.out)
  replace HF7 := Lib.hid (Blk.alloc (.cells #[.int .i64 (fgLo ud ut), .int .i64 (fgHi ud ut)] 79) HF7.out)
  replace HI := Lib.hid (Ints.alloc (.cells #[.int .i64 (fgLo ud ut), .int .i64 (fgHi ud ut)] 79) HI.out)
  replace HB := Lib.hid (Bel.alloc HB.out (.cells #[.int .i64 (fgLo ud ut), .int .i64 (fgHi ud ut)] 79))
  go_upto_region 16 with (fail)
  have hcz := (okCh_iff HF.out.ok).2.1.1
  have hz0 : 0 < C.zs.length := by omega
  have hfu := fg_bd (show 1000 ≤ ud by have := okF_iff HF.out.u; omega) (show ud ≤ 9999 by have := okF_iff HF.out.u; omega) (show -40 ≤ ut by have := okF_iff HF.out.u; omega) (show ut ≤ 40 by have := okF_iff HF.out.u; omega)
  refine wp_region_held_drew (S := fun W => Blk W w8.heap.size 79 #[.int .i64 (fgLo ud ut), .int .i64 (fgHi ud ut)] ∧ Blk W w1.heap.size 75 #[.int .i64 C.dg, .int .i64 C.tn, .string C.nm, .slice (some ⟨g, 0, none⟩) C.zs.length q, .int .i64 C.wd, .int .i64 C.lf, .int .i64 C.rt] ∧ Ints W (some ⟨g, 0, none⟩) C.zs) (by kernel_rfl) (⟨HG.out.drew, HC.out.drew, HI.out⟩) (fun hHeld => ?_)
  replace HC := Lib.hid HC.out.drew
  replace HX := Lib.hid HX.out.drew
  replace HZ := Lib.hid HZ.out.drew
  replace HF7 := Lib.hid HF7.out.drew
  replace HG := Lib.hid HG.out.drew
  replace HI := Lib.hid (Ints.drew HI.out)
  replace HB := Lib.hid (Below.drew HB.out)
  have hg8 := HG.out.lt
  generalize (w8.alloc (.cells #[.int .i64 (fgLo ud ut), .int .i64 (fgHi ud ut)] 79)).drew = v at HC HX HZ HF7 HG HI HB hHeld hg8 ⊢
  refine wpAnyH_take (i := 0) (v := .agg #[.int .i64 (fgLo ud ut), .int .i64 (fgHi ud ut)]) rfl (by kernel_rfl) (by kernel_rfl) (by kernel_rfl) (fun _ _ _ h => h) (yieldsIf_load_blk 79 _ (w8.heap.size) (fun _ h => h.1) Try.underlying79 (by kernel_rfl) (by rfl) rfl rfl) hHeld ?_
  try simp only [Act.put, List.setIfInBounds_toArray, List.set_cons_zero, List.set_cons_succ]
  refine wpAnyH_take (i := 1) (v := (.pointer (some ⟨w1.heap.size, 0, none⟩))) rfl (by kernel_rfl) (by kernel_rfl) (by kernel_rfl) (fun _ _ _ h => h) (Or.inl ⟨by rfl, fun w _ => by simp [go_sem, execOp]⟩) hHeld ?_
  simp only [Act.put, List.getElem_toArray, List.getElem_cons_succ, List.getElem_cons_zero, List.setIfInBounds_toArray, List.set_cons_zero, List.set_cons_succ]
  refine wpAnyH_take (i := 2) (v := (.pointer (some ⟨w1.heap.size, 3, none⟩))) rfl (by kernel_rfl) (by kernel_rfl) (by kernel_rfl) (fun _ _ _ h => h) (Or.inl ⟨by rfl, fun w _ => by simp [go_sem, execOp]⟩) hHeld ?_
  simp only [Act.put, List.getElem_toArray, List.getElem_cons_succ, List.getElem_cons_zero, List.setIfInBounds_toArray, List.set_cons_zero, List.set_cons_succ]
  refine wpAnyH_take (i := 3) (v := (.slice (some ⟨g, 0, none⟩) C.zs.length q)) rfl (by kernel_rfl) (by kernel_rfl) (by kernel_rfl) (fun _ _ _ h => h) (Or.inl ⟨by rfl, fun w' h => by have q := h.2.1.cell 3; simp [go_sem, execOp, q]⟩) hHeld ?_
  simp only [Act.put, List.getElem_toArray, List.getElem_cons_succ, List.getElem_cons_zero, List.setIfInBounds_toArray, List.set_cons_zero, List.set_cons_succ]
  refine wpAnyH_take (i := 4) (v := (.pointer (some ⟨g, 0, none⟩))) rfl (by kernel_rfl) (by kernel_rfl) (by kernel_rfl) (fun _ _ _ h => h) (Or.inl ⟨by rfl, fun w' h => by simp [go_sem, execOp, hz0]⟩) hHeld ?_
  simp only [Act.put, List.getElem_toArray, List.getElem_cons_succ, List.getElem_cons_zero, List.setIfInBounds_toArray, List.set_cons_zero, List.set_cons_succ]
  refine wpAnyH_take (i := 5) (v := (.int .i64 (P0 C))) rfl (by kernel_rfl) (by kernel_rfl) (by kernel_rfl) (fun _ _ _ h => h) (Or.inl ⟨by rfl, fun w' h => by have q : w'.cell? ⟨g, 0, none⟩ = some (.int .i64 (P0 C)) := h.2.2.cell 0 hz0; simp [go_sem, execOp, q]⟩) hHeld ?_
  simp only [Act.put, List.getElem_toArray, List.getElem_cons_succ, List.getElem_cons_zero, List.setIfInBounds_toArray, List.set_cons_zero, List.set_cons_succ]
  obtain ⟨pL, hpL⟩ : ∃ k, k = fpL (P0 C) ud ut := ⟨_, rfl⟩
  obtain ⟨pH, hpH⟩ : ∃ k, k = fpH (P0 C) ud ut := ⟨_, rfl⟩
  have hp6 := (okCh_iff HF.out.ok).2.2.2.2.2.1
  have hfl := fg_le HF.out.u
  have HSL := Lib.hid (fun W => ScaleLog_I (fgLo ud ut) (fgHi ud ut) (P0 C) (by omega) (by omega) hfl (by omega) (by omega) W)
  rw [show mn (fgLo ud ut * P0 C) (fgHi ud ut * P0 C) = pL from hpL.symm, show mx (fgLo ud ut * P0 C) (fgHi ud ut * P0 C) = pH from hpH.symm] at HSL
  have HpL := Lib.hid hpL
  have HpH := Lib.hid hpH
  clear hpL hpH hp6 hfl hfu
  apply cut_O
  · intro key
    refine wpAnyH_ready (rs := [6, 10]) (by kernel_rfl) (by simp) ?_
    refine AllReadyH.cons rfl (fun K hK => ?_) (AllReadyH.cons rfl (fun K hK => ?_) (AllReadyH.nil))
    · go_simp
      go_at_call 52; refine (HSL.out _).mono ?_; rintro e w9 ⟨rfl, hb9⟩; have hka := Bel.ka HB.out hb9 (by repeat (with_reducible first | exact Below.refl _ _ | refine Bel.alloc ?_ _ | refine Below.drew ?_ | refine Bel.drewN ?_ _)); (try (replace HC := Lib.hid (Blk.step hb9 (Blk.step hka HC.out)))); (try (replace HX := Lib.hid (Blk.step hb9 (Blk.step hka HX.out)))); (try (replace HZ := Lib.hid (Blk.step hb9 (Blk.step hka HZ.out)))); (try (replace HF7 := Lib.hid (Blk.step hb9 (Blk.step hka HF7.out)))); (try (replace HG := Lib.hid (Blk.step hb9 (Blk.step hka HG.out)))); (try (replace HI := Lib.hid (Ints.step hb9 (Ints.step hka HI.out)))); replace HB := Lib.hid (Bel.step hb9 (Bel.step hka HB.out)); have hsz9 := hb9.size; have hsy9 := hka.size; (try simp only [World.size_alloc, World.size_drew, World.heap_drewN, World.size_setCell] at hsz9 hsy9); clear hka hb9
      refine hK.out _ _ (⟨HG.out, HC.out, HI.out⟩) (fun hHeld => ?_)
      clear hK K
      try simp only [Act.put, List.setIfInBounds_toArray, List.set_cons_zero, List.set_cons_succ]
      refine wpAnyH_take (i := 7) (v := (.tuple #[.agg #[.int .i64 pL, .int .i64 pH], .int .i64 0])) rfl (by kernel_rfl) (by kernel_rfl) (by kernel_rfl) (fun _ _ _ h => h) (Or.inl ⟨by rfl, fun w _ => by simp [go_sem, execOp]⟩) hHeld ?_
      simp only [Act.put, List.getElem_toArray, List.getElem_cons_succ, List.getElem_cons_zero, List.setIfInBounds_toArray, List.set_cons_zero, List.set_cons_succ]
      refine wpAnyH_take (i := 8) (v := (.agg #[.int .i64 pL, .int .i64 pH])) rfl (by kernel_rfl) (by kernel_rfl) (by kernel_rfl) (fun _ _ _ h => h) (Or.inl ⟨by rfl, fun w _ => by simp [go_sem, execOp]⟩) hHeld ?_
      simp only [Act.put, List.getElem_toArray, List.getElem_cons_succ, List.getElem_cons_zero, List.setIfInBounds_toArray, List.set_cons_zero, List.set_cons_succ]
      refine wpAnyH_take (i := 9) (v := (.int .i64 0)) rfl (by kernel_rfl) (by kernel_rfl) (by kernel_rfl) (fun _ _ _ h => h) (Or.inl ⟨by rfl, fun w _ => by simp [go_sem, execOp]⟩) hHeld ?_
      simp only [Act.put, List.getElem_toArray, List.getElem_cons_succ, List.getElem_cons_zero, List.setIfInBounds_toArray, List.set_cons_zero, List.set_cons_succ]
      refine wpAnyH_ready (rs := [10]) (by kernel_rfl) (by simp) ?_
      refine AllReadyH.cons rfl (fun K hK => ?_) (AllReadyH.nil)
      go_simp
      have HN := Lib.hid (by have h := Blk.new w9 79 #[.int .i64 0, .int .i64 0]; (try simp only [World.size_alloc] at h); exact h)
      replace HC := Lib.hid (Blk.alloc (.cells #[.int .i64 0, .int .i64 0] 79) HC.out)
      replace HX := Lib.hid (Blk.alloc (.cells #[.int .i64 0, .int .i64 0] 79) HX.out)
      replace HZ := Lib.hid (Blk.alloc (.cells #[.int .i64 0, .int .i64 0] 79) HZ.out)
      replace HF7 := Lib.hid (Blk.alloc (.cells #[.int .i64 0, .int .i64 0] 79) HF7.out)
      replace HG := Lib.hid (Blk.alloc (.cells #[.int .i64 0, .int .i64 0] 79) HG.out)
      replace HI := Lib.hid (Ints.alloc (.cells #[.int .i64 0, .int .i64 0] 79) HI.out)
      replace HB := Lib.hid (Bel.alloc HB.out (.cells #[.int .i64 0, .int .i64 0] 79))
      refine hK.out _ _ (⟨HG.out, HC.out, HI.out⟩) (fun hHeld => ?_)
      clear hK K
      try simp only [Act.put, List.setIfInBounds_toArray, List.set_cons_zero, List.set_cons_succ]
      refine wpAnyH_ready (rs := [11]) (by kernel_rfl) (by simp) ?_
      refine AllReadyH.cons rfl (fun K hK => ?_) AllReadyH.nil
      refine step_store_part 79 _ _ _ 0 (.agg #[.int .i64 pL, .int .i64 pH]) #[.int .i64 pL, .int .i64 pH] (Blk.step (Bel.ka0 HB.out (by repeat (with_reducible first | exact Below.refl _ _ | refine Bel.alloc ?_ _ | refine Below.drew ?_ | refine Bel.drewN ?_ _))) HN.out) rfl rfl rfl rfl rfl (by rfl) (by kernel_rfl) (by simp [Value.oneCell']) (by simp) ?_; intro wS hBS hkb; simp only [setL, List.setIfInBounds_toArray, List.set_cons_zero, List.set_cons_succ] at hBS; have hka := Kp.kab HB.out hkb (by repeat (with_reducible first | exact Below.refl _ _ | refine Bel.alloc ?_ _ | refine Below.drew ?_ | refine Bel.drewN ?_ _)); (try (replace HC := Lib.hid ((Blk.step hka HC.out).kp hkb (by first | omega | (simp; omega))))); (try (replace HX := Lib.hid ((Blk.step hka HX.out).kp hkb (by first | omega | (simp; omega))))); (try (replace HZ := Lib.hid ((Blk.step hka HZ.out).kp hkb (by first | omega | (simp; omega))))); (try (replace HF7 := Lib.hid ((Blk.step hka HF7.out).kp hkb (by first | omega | (simp; omega))))); (try (replace HG := Lib.hid ((Blk.step hka HG.out).kp hkb (by first | omega | (simp; omega))))); (try (replace HI := Lib.hid (Ints.kpB (Ints.step hka HI.out) hkb (by first | omega | (simp; omega))))); replace HB := Lib.hid (Kp.bel hkb (by first | omega | (simp; omega)) (by first | omega | (simp; omega)) (Bel.step hka HB.out)); replace HN := Lib.hid hBS; have hszS := hkb.size_; have hsyS := hka.size; (try simp only [World.size_alloc, World.size_drew, World.heap_drewN, World.size_setCell] at hszS hsyS); clear hBS hka hkb
      refine hK.out _ _ (⟨HG.out, HC.out, HI.out⟩) (fun hHeld => ?_)
      clear hK K
      try simp only [Act.put, List.setIfInBounds_toArray, List.set_cons_zero, List.set_cons_succ]
      refine wpAnyH_take (i := 12) (v := (.int .i64 0)) rfl (by kernel_rfl) (by kernel_rfl) (by kernel_rfl) (fun _ _ _ h => h) (Or.inl ⟨by rfl, fun w _ => by simp [go_sem, execOp]⟩) hHeld ?_
      simp only [Act.put, List.getElem_toArray, List.getElem_cons_succ, List.getElem_cons_zero, List.setIfInBounds_toArray, List.set_cons_zero, List.set_cons_succ]
      refine wpAnyH_done (by kernel_rfl) ?_ _
      generalize w9.heap.size = Y at HN ⊢
      replace HB := Lib.hid HB.out
      clear hHeld hsz9 hsy9 hszS hsyS
      revert HC HX HZ HF7 HI HB HN
      generalize wS = W
      revert W Y
      exact key.out
    · go_simp
      have HN := Lib.hid (by have h := Blk.new v 79 #[.int .i64 0, .int .i64 0]; (try simp only [World.size_alloc] at h); exact h)
      replace HC := Lib.hid (Blk.alloc (.cells #[.int .i64 0, .int .i64 0] 79) HC.out)
      replace HX := Lib.hid (Blk.alloc (.cells #[.int .i64 0, .int .i64 0] 79) HX.out)
      replace HZ := Lib.hid (Blk.alloc (.cells #[.int .i64 0, .int .i64 0] 79) HZ.out)
      replace HF7 := Lib.hid (Blk.alloc (.cells #[.int .i64 0, .int .i64 0] 79) HF7.out)
      replace HG := Lib.hid (Blk.alloc (.cells #[.int .i64 0, .int .i64 0] 79) HG.out)
      replace HI := Lib.hid (Ints.alloc (.cells #[.int .i64 0, .int .i64 0] 79) HI.out)
      replace HB := Lib.hid (Bel.alloc HB.out (.cells #[.int .i64 0, .int .i64 0] 79))
      refine hK.out _ _ (⟨HG.out, HC.out, HI.out⟩) (fun hHeld => ?_)
      clear hK K
      try simp only [Act.put, List.setIfInBounds_toArray, List.set_cons_zero, List.set_cons_succ]
      refine wpAnyH_ready (rs := [6]) (by kernel_rfl) (by simp) ?_
      refine AllReadyH.cons rfl (fun K hK => ?_) (AllReadyH.nil)
      go_simp
      go_at_call 52; refine (HSL.out _).mono ?_; rintro e w9 ⟨rfl, hb9⟩; have hka := Bel.ka HB.out hb9 (by repeat (with_reducible first | exact Below.refl _ _ | refine Bel.alloc ?_ _ | refine Below.drew ?_ | refine Bel.drewN ?_ _)); (try (replace HC := Lib.hid (Blk.step hb9 (Blk.step hka HC.out)))); (try (replace HX := Lib.hid (Blk.step hb9 (Blk.step hka HX.out)))); (try (replace HZ := Lib.hid (Blk.step hb9 (Blk.step hka HZ.out)))); (try (replace HF7 := Lib.hid (Blk.step hb9 (Blk.step hka HF7.out)))); (try (replace HG := Lib.hid (Blk.step hb9 (Blk.step hka HG.out)))); (try (replace HN := Lib.hid (Blk.step hb9 (Blk.step hka HN.out)))); (try (replace HI := Lib.hid (Ints.step hb9 (Ints.step hka HI.out)))); replace HB := Lib.hid (Bel.step hb9 (Bel.step hka HB.out)); have hsz9 := hb9.size; have hsy9 := hka.size; (try simp only [World.size_alloc, World.size_drew, World.heap_drewN, World.size_setCell] at hsz9 hsy9); clear hka hb9
      refine hK.out _ _ (⟨HG.out, HC.out, HI.out⟩) (fun hHeld => ?_)
      clear hK K
      try simp only [Act.put, List.setIfInBounds_toArray, List.set_cons_zero, List.set_cons_succ]
      refine wpAnyH_take (i := 7) (v := (.tuple #[.agg #[.int .i64 pL, .int .i64 pH], .int .i64 0])) rfl (by kernel_rfl) (by kernel_rfl) (by kernel_rfl) (fun _ _ _ h => h) (Or.inl ⟨by rfl, fun w _ => by simp [go_sem, execOp]⟩) hHeld ?_
      simp only [Act.put, List.getElem_toArray, List.getElem_cons_succ, List.getElem_cons_zero, List.setIfInBounds_toArray, List.set_cons_zero, List.set_cons_succ]
      refine wpAnyH_take (i := 8) (v := (.agg #[.int .i64 pL, .int .i64 pH])) rfl (by kernel_rfl) (by kernel_rfl) (by kernel_rfl) (fun _ _ _ h => h) (Or.inl ⟨by rfl, fun w _ => by simp [go_sem, execOp]⟩) hHeld ?_
      simp only [Act.put, List.getElem_toArray, List.getElem_cons_succ, List.getElem_cons_zero, List.setIfInBounds_toArray, List.set_cons_zero, List.set_cons_succ]
      refine wpAnyH_take (i := 9) (v := (.int .i64 0)) rfl (by kernel_rfl) (by kernel_rfl) (by kernel_rfl) (fun _ _ _ h => h) (Or.inl ⟨by rfl, fun w _ => by simp [go_sem, execOp]⟩) hHeld ?_
      simp only [Act.put, List.getElem_toArray, List.getElem_cons_succ, List.getElem_cons_zero, List.setIfInBounds_toArray, List.set_cons_zero, List.set_cons_succ]
      refine wpAnyH_ready (rs := [11]) (by kernel_rfl) (by simp) ?_
      refine AllReadyH.cons rfl (fun K hK => ?_) AllReadyH.nil
      refine step_store_part 79 _ _ _ 0 (.agg #[.int .i64 pL, .int .i64 pH]) #[.int .i64 pL, .int .i64 pH] (Blk.step (Bel.ka0 HB.out (by repeat (with_reducible first | exact Below.refl _ _ | refine Bel.alloc ?_ _ | refine Below.drew ?_ | refine Bel.drewN ?_ _))) HN.out) rfl rfl rfl rfl rfl (by rfl) (by kernel_rfl) (by simp [Value.oneCell']) (by simp) ?_; intro wS hBS hkb; simp only [setL, List.setIfInBounds_toArray, List.set_cons_zero, List.set_cons_succ] at hBS; have hka := Kp.kab HB.out hkb (by repeat (with_reducible first | exact Below.refl _ _ | refine Bel.alloc ?_ _ | refine Below.drew ?_ | refine Bel.drewN ?_ _)); (try (replace HC := Lib.hid ((Blk.step hka HC.out).kp hkb (by first | omega | (simp; omega))))); (try (replace HX := Lib.hid ((Blk.step hka HX.out).kp hkb (by first | omega | (simp; omega))))); (try (replace HZ := Lib.hid ((Blk.step hka HZ.out).kp hkb (by first | omega | (simp; omega))))); (try (replace HF7 := Lib.hid ((Blk.step hka HF7.out).kp hkb (by first | omega | (simp; omega))))); (try (replace HG := Lib.hid ((Blk.step hka HG.out).kp hkb (by first | omega | (simp; omega))))); (try (replace HI := Lib.hid (Ints.kpB (Ints.step hka HI.out) hkb (by first | omega | (simp; omega))))); replace HB := Lib.hid (Kp.bel hkb (by first | omega | (simp; omega)) (by first | omega | (simp; omega)) (Bel.step hka HB.out)); replace HN := Lib.hid hBS; have hszS := hkb.size_; have hsyS := hka.size; (try simp only [World.size_alloc, World.size_drew, World.heap_drewN, World.size_setCell] at hszS hsyS); clear hBS hka hkb
      refine hK.out _ _ (⟨HG.out, HC.out, HI.out⟩) (fun hHeld => ?_)
      clear hK K
      try simp only [Act.put, List.setIfInBounds_toArray, List.set_cons_zero, List.set_cons_succ]
      refine wpAnyH_take (i := 12) (v := (.int .i64 0)) rfl (by kernel_rfl) (by kernel_rfl) (by kernel_rfl) (fun _ _ _ h => h) (Or.inl ⟨by rfl, fun w _ => by simp [go_sem, execOp]⟩) hHeld ?_
      simp only [Act.put, List.getElem_toArray, List.getElem_cons_succ, List.getElem_cons_zero, List.setIfInBounds_toArray, List.set_cons_zero, List.set_cons_succ]
      refine wpAnyH_done (by kernel_rfl) ?_ _
      exact key.out _ _ HC HX HZ HF7 HI HN HB
  · intro Y W HC HX HZ HF7 HI HN HB
    have hlY := HN.out.lt
    go_upto_region 17 with (fail)
    have hz1 : 1 < C.zs.length := by omega
    have hz1' : ¬ (C.zs.length : Int) ≤ 1 := by omega
    refine wp_region_held_drew (S := fun V => Blk V w2.heap.size 79 #[.int .i64 aL, .int .i64 aH] ∧ Blk V w1.heap.size 75 #[.int .i64 C.dg, .int .i64 C.tn, .string C.nm, .slice (some ⟨g, 0, none⟩) C.zs.length q, .int .i64 C.wd, .int .i64 C.lf, .int .i64 C.rt] ∧ Ints V (some ⟨g, 0, none⟩) C.zs) (by kernel_rfl) (⟨HX.out.drew, HC.out.drew, HI.out⟩) (fun hHeld => ?_)
    replace HC := Lib.hid HC.out.drew
    replace HX := Lib.hid HX.out.drew
    replace HZ := Lib.hid HZ.out.drew
    replace HF7 := Lib.hid HF7.out.drew
    replace HN := Lib.hid HN.out.drew
    replace HI := Lib.hid (Ints.drew HI.out)
    replace HB := Lib.hid (Below.drew HB.out)
    have hsW : W.drew.heap.size = W.heap.size := rfl
    rw [← hsW] at hlY
    clear hsW
    have hsx : w2.heap.size < W.drew.heap.size := HX.out.lt
    have hsz : w6.heap.size < W.drew.heap.size := HZ.out.lt
    have hsf : w7.heap.size < W.drew.heap.size := HF7.out.lt
    generalize W.drew = v2 at HC HX HZ HF7 HN HI HB hHeld hlY hsx hsz hsf ⊢
    refine wpAnyH_take (i := 0) (v := .agg #[.int .i64 aL, .int .i64 aH]) rfl (by kernel_rfl) (by kernel_rfl) (by kernel_rfl) (fun _ _ _ h => h) (yieldsIf_load_blk 79 _ (w2.heap.size) (fun _ h => h.1) Try.underlying79 (by kernel_rfl) (by rfl) rfl rfl) hHeld ?_
    try simp only [Act.put, List.setIfInBounds_toArray, List.set_cons_zero, List.set_cons_succ]
    refine wpAnyH_take (i := 1) (v := (.pointer (some ⟨w1.heap.size, 0, none⟩))) rfl (by kernel_rfl) (by kernel_rfl) (by kernel_rfl) (fun _ _ _ h => h) (Or.inl ⟨by rfl, fun w _ => by simp [go_sem, execOp]⟩) hHeld ?_
    simp only [Act.put, List.getElem_toArray, List.getElem_cons_succ, List.getElem_cons_zero, List.setIfInBounds_toArray, List.set_cons_zero, List.set_cons_succ]
    refine wpAnyH_take (i := 2) (v := (.pointer (some ⟨w1.heap.size, 3, none⟩))) rfl (by kernel_rfl) (by kernel_rfl) (by kernel_rfl) (fun _ _ _ h => h) (Or.inl ⟨by rfl, fun w _ => by simp [go_sem, execOp]⟩) hHeld ?_
    simp only [Act.put, List.getElem_toArray, List.getElem_cons_succ, List.getElem_cons_zero, List.setIfInBounds_toArray, List.set_cons_zero, List.set_cons_succ]
    refine wpAnyH_take (i := 3) (v := (.slice (some ⟨g, 0, none⟩) C.zs.length q)) rfl (by kernel_rfl) (by kernel_rfl) (by kernel_rfl) (fun _ _ _ h => h) (Or.inl ⟨by rfl, fun w' h => by have q := h.2.1.cell 3; simp [go_sem, execOp, q]⟩) hHeld ?_
    simp only [Act.put, List.getElem_toArray, List.getElem_cons_succ, List.getElem_cons_zero, List.setIfInBounds_toArray, List.set_cons_zero, List.set_cons_succ]
    refine wpAnyH_take (i := 4) (v := (.pointer (some ⟨g, 1, none⟩))) rfl (by kernel_rfl) (by kernel_rfl) (by kernel_rfl) (fun _ _ _ h => h) (Or.inl ⟨by rfl, fun w' h => by simp [go_sem, execOp, hz1, hz1']⟩) hHeld ?_
    simp only [Act.put, List.getElem_toArray, List.getElem_cons_succ, List.getElem_cons_zero, List.setIfInBounds_toArray, List.set_cons_zero, List.set_cons_succ]
    refine wpAnyH_take (i := 5) (v := (.int .i64 (P1 C))) rfl (by kernel_rfl) (by kernel_rfl) (by kernel_rfl) (fun _ _ _ h => h) (Or.inl ⟨by rfl, fun w' h => by have q : w'.cell? ⟨g, 1, none⟩ = some (.int .i64 (P1 C)) := h.2.2.cell 1 hz1; simp [go_sem, execOp, q]⟩) hHeld ?_
    simp only [Act.put, List.getElem_toArray, List.getElem_cons_succ, List.getElem_cons_zero, List.setIfInBounds_toArray, List.set_cons_zero, List.set_cons_succ]
    obtain ⟨qL, hqL⟩ : ∃ k, k = mn (aL * P1 C) (aH * P1 C) := ⟨_, rfl⟩
    obtain ⟨qH, hqH⟩ : ∃ k, k = mx (aL * P1 C) (aH * P1 C) := ⟨_, rfl⟩
    have hp6 := (okCh_iff HF.out.ok).2.2.2.2.2.2
    have HSQ := Lib.hid (fun W => ScaleLog_I aL aH (P1 C) i6 i7 i5 (by omega) (by omega) W)
    rw [← hqL, ← hqH] at HSQ
    have HqL := Lib.hid hqL
    have HqH := Lib.hid hqH
    clear hqL hqH hp6
    apply cut_O
    · intro key2
      refine wpAnyH_ready (rs := [6, 10]) (by kernel_rfl) (by simp) ?_
      refine AllReadyH.cons rfl (fun K hK => ?_) (AllReadyH.cons rfl (fun K hK => ?_) (AllReadyH.nil))
      · go_simp
        go_at_call 52; refine (HSQ.out _).mono ?_; rintro e w10 ⟨rfl, hb10⟩; have hka := Bel.ka HB.out hb10 (by repeat (with_reducible first | exact Below.refl _ _ | refine Bel.alloc ?_ _ | refine Below.drew ?_ | refine Bel.drewN ?_ _)); (try (replace HC := Lib.hid (Blk.step hb10 (Blk.step hka HC.out)))); (try (replace HX := Lib.hid (Blk.step hb10 (Blk.step hka HX.out)))); (try (replace HZ := Lib.hid (Blk.step hb10 (Blk.step hka HZ.out)))); (try (replace HF7 := Lib.hid (Blk.step hb10 (Blk.step hka HF7.out)))); (try (replace HN := Lib.hid (Blk.step hb10 (Blk.step hka HN.out)))); (try (replace HI := Lib.hid (Ints.step hb10 (Ints.step hka HI.out)))); replace HB := Lib.hid (Bel.step hb10 (Bel.step hka HB.out)); have hsz10 := hb10.size; have hsy10 := hka.size; (try simp only [World.size_alloc, World.size_drew, World.heap_drewN, World.size_setCell] at hsz10 hsy10); clear hka hb10
        refine hK.out _ _ (⟨HX.out, HC.out, HI.out⟩) (fun hHeld => ?_)
        clear hK K
        try simp only [Act.put, List.setIfInBounds_toArray, List.set_cons_zero, List.set_cons_succ]
        refine wpAnyH_take (i := 7) (v := (.tuple #[.agg #[.int .i64 qL, .int .i64 qH], .int .i64 0])) rfl (by kernel_rfl) (by kernel_rfl) (by kernel_rfl) (fun _ _ _ h => h) (Or.inl ⟨by rfl, fun w _ => by simp [go_sem, execOp]⟩) hHeld ?_
        simp only [Act.put, List.getElem_toArray, List.getElem_cons_succ, List.getElem_cons_zero, List.setIfInBounds_toArray, List.set_cons_zero, List.set_cons_succ]
        refine wpAnyH_take (i := 8) (v := (.agg #[.int .i64 qL, .int .i64 qH])) rfl (by kernel_rfl) (by kernel_rfl) (by kernel_rfl) (fun _ _ _ h => h) (Or.inl ⟨by rfl, fun w _ => by simp [go_sem, execOp]⟩) hHeld ?_
        simp only [Act.put, List.getElem_toArray, List.getElem_cons_succ, List.getElem_cons_zero, List.setIfInBounds_toArray, List.set_cons_zero, List.set_cons_succ]
        refine wpAnyH_take (i := 9) (v := (.int .i64 0)) rfl (by kernel_rfl) (by kernel_rfl) (by kernel_rfl) (fun _ _ _ h => h) (Or.inl ⟨by rfl, fun w _ => by simp [go_sem, execOp]⟩) hHeld ?_
        simp only [Act.put, List.getElem_toArray, List.getElem_cons_succ, List.getElem_cons_zero, List.setIfInBounds_toArray, List.set_cons_zero, List.set_cons_succ]
        refine wpAnyH_ready (rs := [10]) (by kernel_rfl) (by simp) ?_
        refine AllReadyH.cons rfl (fun K hK => ?_) (AllReadyH.nil)
        go_simp
        have HQ := Lib.hid (by have h := Blk.new w10 79 #[.int .i64 0, .int .i64 0]; (try simp only [World.size_alloc] at h); exact h)
        replace HC := Lib.hid (Blk.alloc (.cells #[.int .i64 0, .int .i64 0] 79) HC.out)
        replace HX := Lib.hid (Blk.alloc (.cells #[.int .i64 0, .int .i64 0] 79) HX.out)
        replace HZ := Lib.hid (Blk.alloc (.cells #[.int .i64 0, .int .i64 0] 79) HZ.out)
        replace HF7 := Lib.hid (Blk.alloc (.cells #[.int .i64 0, .int .i64 0] 79) HF7.out)
        replace HN := Lib.hid (Blk.alloc (.cells #[.int .i64 0, .int .i64 0] 79) HN.out)
        replace HI := Lib.hid (Ints.alloc (.cells #[.int .i64 0, .int .i64 0] 79) HI.out)
        replace HB := Lib.hid (Bel.alloc HB.out (.cells #[.int .i64 0, .int .i64 0] 79))
        refine hK.out _ _ (⟨HX.out, HC.out, HI.out⟩) (fun hHeld => ?_)
        clear hK K
        try simp only [Act.put, List.setIfInBounds_toArray, List.set_cons_zero, List.set_cons_succ]
        refine wpAnyH_ready (rs := [11]) (by kernel_rfl) (by simp) ?_
        refine AllReadyH.cons rfl (fun K hK => ?_) AllReadyH.nil
        refine step_store_part 79 _ _ _ 0 (.agg #[.int .i64 qL, .int .i64 qH]) #[.int .i64 qL, .int .i64 qH] (Blk.step (Bel.ka0 HB.out (by repeat (with_reducible first | exact Below.refl _ _ | refine Bel.alloc ?_ _ | refine Below.drew ?_ | refine Bel.drewN ?_ _))) HQ.out) rfl rfl rfl rfl rfl (by rfl) (by kernel_rfl) (by simp [Value.oneCell']) (by simp) ?_; intro wS hBS hkb; simp only [setL, List.setIfInBounds_toArray, List.set_cons_zero, List.set_cons_succ] at hBS; have hka := Kp.kab HB.out hkb (by repeat (with_reducible first | exact Below.refl _ _ | refine Bel.alloc ?_ _ | refine Below.drew ?_ | refine Bel.drewN ?_ _)); (try (replace HC := Lib.hid ((Blk.step hka HC.out).kp hkb (by first | omega | (simp; omega))))); (try (replace HX := Lib.hid ((Blk.step hka HX.out).kp hkb (by first | omega | (simp; omega))))); (try (replace HZ := Lib.hid ((Blk.step hka HZ.out).kp hkb (by first | omega | (simp; omega))))); (try (replace HF7 := Lib.hid ((Blk.step hka HF7.out).kp hkb (by first | omega | (simp; omega))))); (try (replace HN := Lib.hid ((Blk.step hka HN.out).kp hkb (by first | omega | (simp; omega))))); (try (replace HI := Lib.hid (Ints.kpB (Ints.step hka HI.out) hkb (by first | omega | (simp; omega))))); replace HB := Lib.hid (Kp.bel hkb (by first | omega | (simp; omega)) (by first | omega | (simp; omega)) (Bel.step hka HB.out)); replace HQ := Lib.hid hBS; have hszS := hkb.size_; have hsyS := hka.size; (try simp only [World.size_alloc, World.size_drew, World.heap_drewN, World.size_setCell] at hszS hsyS); clear hBS hka hkb
        refine hK.out _ _ (⟨HX.out, HC.out, HI.out⟩) (fun hHeld => ?_)
        clear hK K
        try simp only [Act.put, List.setIfInBounds_toArray, List.set_cons_zero, List.set_cons_succ]
        refine wpAnyH_take (i := 12) (v := (.int .i64 0)) rfl (by kernel_rfl) (by kernel_rfl) (by kernel_rfl) (fun _ _ _ h => h) (Or.inl ⟨by rfl, fun w _ => by simp [go_sem, execOp]⟩) hHeld ?_
        simp only [Act.put, List.getElem_toArray, List.getElem_cons_succ, List.getElem_cons_zero, List.setIfInBounds_toArray, List.set_cons_zero, List.set_cons_succ]
        refine wpAnyH_done (by kernel_rfl) ?_ _
        generalize w10.heap.size = Y2 at HQ ⊢
        replace HB := Lib.hid HB.out
        clear hHeld hsz10 hsy10 hszS hsyS
        revert HZ HF7 HN HB HQ
        generalize wS = W2
        revert W2 Y2
        exact key2.out
      · go_simp
        have HQ := Lib.hid (by have h := Blk.new v2 79 #[.int .i64 0, .int .i64 0]; (try simp only [World.size_alloc] at h); exact h)
        replace HC := Lib.hid (Blk.alloc (.cells #[.int .i64 0, .int .i64 0] 79) HC.out)
        replace HX := Lib.hid (Blk.alloc (.cells #[.int .i64 0, .int .i64 0] 79) HX.out)
        replace HZ := Lib.hid (Blk.alloc (.cells #[.int .i64 0, .int .i64 0] 79) HZ.out)
        replace HF7 := Lib.hid (Blk.alloc (.cells #[.int .i64 0, .int .i64 0] 79) HF7.out)
        replace HN := Lib.hid (Blk.alloc (.cells #[.int .i64 0, .int .i64 0] 79) HN.out)
        replace HI := Lib.hid (Ints.alloc (.cells #[.int .i64 0, .int .i64 0] 79) HI.out)
        replace HB := Lib.hid (Bel.alloc HB.out (.cells #[.int .i64 0, .int .i64 0] 79))
        refine hK.out _ _ (⟨HX.out, HC.out, HI.out⟩) (fun hHeld => ?_)
        clear hK K
        try simp only [Act.put, List.setIfInBounds_toArray, List.set_cons_zero, List.set_cons_succ]
        refine wpAnyH_ready (rs := [6]) (by kernel_rfl) (by simp) ?_
        refine AllReadyH.cons rfl (fun K hK => ?_) (AllReadyH.nil)
        go_simp
        go_at_call 52; refine (HSQ.out _).mono ?_; rintro e w10 ⟨rfl, hb10⟩; have hka := Bel.ka HB.out hb10 (by repeat (with_reducible first | exact Below.refl _ _ | refine Bel.alloc ?_ _ | refine Below.drew ?_ | refine Bel.drewN ?_ _)); (try (replace HC := Lib.hid (Blk.step hb10 (Blk.step hka HC.out)))); (try (replace HX := Lib.hid (Blk.step hb10 (Blk.step hka HX.out)))); (try (replace HZ := Lib.hid (Blk.step hb10 (Blk.step hka HZ.out)))); (try (replace HF7 := Lib.hid (Blk.step hb10 (Blk.step hka HF7.out)))); (try (replace HN := Lib.hid (Blk.step hb10 (Blk.step hka HN.out)))); (try (replace HQ := Lib.hid (Blk.step hb10 (Blk.step hka HQ.out)))); (try (replace HI := Lib.hid (Ints.step hb10 (Ints.step hka HI.out)))); replace HB := Lib.hid (Bel.step hb10 (Bel.step hka HB.out)); have hsz10 := hb10.size; have hsy10 := hka.size; (try simp only [World.size_alloc, World.size_drew, World.heap_drewN, World.size_setCell] at hsz10 hsy10); clear hka hb10
        refine hK.out _ _ (⟨HX.out, HC.out, HI.out⟩) (fun hHeld => ?_)
        clear hK K
        try simp only [Act.put, List.setIfInBounds_toArray, List.set_cons_zero, List.set_cons_succ]
        refine wpAnyH_take (i := 7) (v := (.tuple #[.agg #[.int .i64 qL, .int .i64 qH], .int .i64 0])) rfl (by kernel_rfl) (by kernel_rfl) (by kernel_rfl) (fun _ _ _ h => h) (Or.inl ⟨by rfl, fun w _ => by simp [go_sem, execOp]⟩) hHeld ?_
        simp only [Act.put, List.getElem_toArray, List.getElem_cons_succ, List.getElem_cons_zero, List.setIfInBounds_toArray, List.set_cons_zero, List.set_cons_succ]
        refine wpAnyH_take (i := 8) (v := (.agg #[.int .i64 qL, .int .i64 qH])) rfl (by kernel_rfl) (by kernel_rfl) (by kernel_rfl) (fun _ _ _ h => h) (Or.inl ⟨by rfl, fun w _ => by simp [go_sem, execOp]⟩) hHeld ?_
        simp only [Act.put, List.getElem_toArray, List.getElem_cons_succ, List.getElem_cons_zero, List.setIfInBounds_toArray, List.set_cons_zero, List.set_cons_succ]
        refine wpAnyH_take (i := 9) (v := (.int .i64 0)) rfl (by kernel_rfl) (by kernel_rfl) (by kernel_rfl) (fun _ _ _ h => h) (Or.inl ⟨by rfl, fun w _ => by simp [go_sem, execOp]⟩) hHeld ?_
        simp only [Act.put, List.getElem_toArray, List.getElem_cons_succ, List.getElem_cons_zero, List.setIfInBounds_toArray, List.set_cons_zero, List.set_cons_succ]
        refine wpAnyH_ready (rs := [11]) (by kernel_rfl) (by simp) ?_
        refine AllReadyH.cons rfl (fun K hK => ?_) AllReadyH.nil
        refine step_store_part 79 _ _ _ 0 (.agg #[.int .i64 qL, .int .i64 qH]) #[.int .i64 qL, .int .i64 qH] (Blk.step (Bel.ka0 HB.out (by repeat (with_reducible first | exact Below.refl _ _ | refine Bel.alloc ?_ _ | refine Below.drew ?_ | refine Bel.drewN ?_ _))) HQ.out) rfl rfl rfl rfl rfl (by rfl) (by kernel_rfl) (by simp [Value.oneCell']) (by simp) ?_; intro wS hBS hkb; simp only [setL, List.setIfInBounds_toArray, List.set_cons_zero, List.set_cons_succ] at hBS; have hka := Kp.kab HB.out hkb (by repeat (with_reducible first | exact Below.refl _ _ | refine Bel.alloc ?_ _ | refine Below.drew ?_ | refine Bel.drewN ?_ _)); (try (replace HC := Lib.hid ((Blk.step hka HC.out).kp hkb (by first | omega | (simp; omega))))); (try (replace HX := Lib.hid ((Blk.step hka HX.out).kp hkb (by first | omega | (simp; omega))))); (try (replace HZ := Lib.hid ((Blk.step hka HZ.out).kp hkb (by first | omega | (simp; omega))))); (try (replace HF7 := Lib.hid ((Blk.step hka HF7.out).kp hkb (by first | omega | (simp; omega))))); (try (replace HN := Lib.hid ((Blk.step hka HN.out).kp hkb (by first | omega | (simp; omega))))); (try (replace HI := Lib.hid (Ints.kpB (Ints.step hka HI.out) hkb (by first | omega | (simp; omega))))); replace HB := Lib.hid (Kp.bel hkb (by first | omega | (simp; omega)) (by first | omega | (simp; omega)) (Bel.step hka HB.out)); replace HQ := Lib.hid hBS; have hszS := hkb.size_; have hsyS := hka.size; (try simp only [World.size_alloc, World.size_drew, World.heap_drewN, World.size_setCell] at hszS hsyS); clear hBS hka hkb
        refine hK.out _ _ (⟨HX.out, HC.out, HI.out⟩) (fun hHeld => ?_)
        clear hK K
        try simp only [Act.put, List.setIfInBounds_toArray, List.set_cons_zero, List.set_cons_succ]
        refine wpAnyH_take (i := 12) (v := (.int .i64 0)) rfl (by kernel_rfl) (by kernel_rfl) (by kernel_rfl) (fun _ _ _ h => h) (Or.inl ⟨by rfl, fun w _ => by simp [go_sem, execOp]⟩) hHeld ?_
        simp only [Act.put, List.getElem_toArray, List.getElem_cons_succ, List.getElem_cons_zero, List.setIfInBounds_toArray, List.set_cons_zero, List.set_cons_succ]
        refine wpAnyH_done (by kernel_rfl) ?_ _
        exact key2.out _ _ HZ HF7 HN HQ HB
    · intro Y2 W2 HZ HF7 HN HQ HB
      have hfx := okF_iff HF.out.x
      have hfc := okF_iff (okCh_fac HF.out.ok)
      have bx := fg_bd (show 1000 ≤ xd by omega) (show xd ≤ 9999 by omega) (show -40 ≤ xt by omega) (show xt ≤ 40 by omega)
      have bc := fg_bd (show 1000 ≤ C.dg by omega) (show C.dg ≤ 9999 by omega) (show -40 ≤ C.tn by omega) (show C.tn ≤ 40 by omega)
      have lx := fg_le HF.out.x
      have lc := fg_le (okCh_fac HF.out.ok)
      obtain ⟨bp1, bp2, bp3⟩ : -300000000 ≤ pL ∧ pH ≤ 300000000 ∧ pL ≤ pH := by
        have hfu := okF_iff HF.out.u
        have bu := fg_bd (show 1000 ≤ ud by omega) (show ud ≤ 9999 by omega) (show -40 ≤ ut by omega) (show ut ≤ 40 by omega)
        have hp6 := (okCh_iff HF.out.ok).2.2.2.2.2.1
        have m1 := mul_bd (fgLo ud ut) (P0 C) 43000000 6 (by omega) (by omega) (by omega) (by omega)
        have m2 := mul_bd (fgHi ud ut) (P0 C) 43000000 6 (by omega) (by omega) (by omega) (by omega)
        have n1 := mn_bd (B := 258000000) (a := fgLo ud ut * P0 C) (b := fgHi ud ut * P0 C) (by omega) (by omega) (by omega) (by omega)
        have n2 := mx_bd (B := 258000000) (a := fgLo ud ut * P0 C) (b := fgHi ud ut * P0 C) (by omega) (by omega) (by omega) (by omega)
        rw [HpL.out, HpH.out]
        exact ⟨by unfold fpL; omega, by unfold fpH; omega, fp_le _ _ _⟩
      have j1 : qL ≤ fgLo xd xt - fgHi C.dg C.tn - pH := by rw [HqL.out, HaL.out, HaH.out, HpH.out]; exact HF.out.inl
      have j2 : fgHi xd xt - fgLo C.dg C.tn - pL ≤ qH := by rw [HqH.out, HaL.out, HaH.out, HpL.out]; exact HF.out.inh
      go_wp2_with (first | (refine wpList_load_blkG 79 _ _ (Blk.step (Bel.ka0 HB.out (by repeat (with_reducible first | exact Below.refl _ _ | refine Bel.alloc ?_ _ | refine Below.drew ?_ | refine Bel.drewN ?_ _))) HZ.out) Try.underlying79 (by kernel_rfl) rfl rfl (by rfl) ?_) | (refine wpList_load_blkG 79 _ _ (Blk.step (Bel.ka0 HB.out (by repeat (with_reducible first | exact Below.refl _ _ | refine Bel.alloc ?_ _ | refine Below.drew ?_ | refine Bel.drewN ?_ _))) HF7.out) Try.underlying79 (by kernel_rfl) rfl rfl (by rfl) ?_))
      go_at_call 53; refine (SubtractLogs_I (fgLo xd xt) (fgHi xd xt) (fgLo C.dg C.tn) (fgHi C.dg C.tn) (by omega) (by omega) lx (by omega) (by omega) lc _).mono ?_; rintro e w11 ⟨rfl, hb11⟩; have hka := Bel.ka HB.out hb11 (by repeat (with_reducible first | exact Below.refl _ _ | refine Bel.alloc ?_ _ | refine Below.drew ?_ | refine Bel.drewN ?_ _)); (try (replace HN := Lib.hid (Blk.step hb11 (Blk.step hka HN.out)))); (try (replace HQ := Lib.hid (Blk.step hb11 (Blk.step hka HQ.out)))); replace HB := Lib.hid (Bel.step hb11 (Bel.step hka HB.out)); have hsz11 := hb11.size; have hsy11 := hka.size; (try simp only [World.size_alloc, World.size_drew, World.heap_drewN, World.size_setCell] at hsz11 hsy11); clear hka hb11
      have HD := Lib.hid (by have h := Blk.new w11 79 #[.int .i64 (fgLo xd xt - fgHi C.dg C.tn), .int .i64 (fgHi xd xt - fgLo C.dg C.tn)]; (try simp only [World.size_alloc] at h); exact h)
      replace HN := Lib.hid (Blk.alloc (.cells #[.int .i64 (fgLo xd xt - fgHi C.dg C.tn), .int .i64 (fgHi xd xt - fgLo C.dg C.tn)] 79) HN.out)
      replace HQ := Lib.hid (Blk.alloc (.cells #[.int .i64 (fgLo xd xt - fgHi C.dg C.tn), .int .i64 (fgHi xd xt - fgLo C.dg C.tn)] 79) HQ.out)
      replace HB := Lib.hid (Bel.alloc HB.out (.cells #[.int .i64 (fgLo xd xt - fgHi C.dg C.tn), .int .i64 (fgHi xd xt - fgLo C.dg C.tn)] 79))
      go_wp2_with (first | (refine wpList_load_blkG 79 _ _ (Blk.step (Bel.ka0 HB.out (by repeat (with_reducible first | exact Below.refl _ _ | refine Bel.alloc ?_ _ | refine Below.drew ?_ | refine Bel.drewN ?_ _))) HD.out) Try.underlying79 (by kernel_rfl) rfl rfl (by rfl) ?_) | (refine wpList_load_blkG 79 _ _ (Blk.step (Bel.ka0 HB.out (by repeat (with_reducible first | exact Below.refl _ _ | refine Bel.alloc ?_ _ | refine Below.drew ?_ | refine Bel.drewN ?_ _))) HN.out) Try.underlying79 (by kernel_rfl) rfl rfl (by rfl) ?_))
      go_at_call 53; refine (SubtractLogs_I (fgLo xd xt - fgHi C.dg C.tn) (fgHi xd xt - fgLo C.dg C.tn) pL pH (by omega) (by omega) (by omega) (by omega) (by omega) bp3 _).mono ?_; rintro e w12 ⟨rfl, hb12⟩; have hka := Bel.ka HB.out hb12 (by repeat (with_reducible first | exact Below.refl _ _ | refine Bel.alloc ?_ _ | refine Below.drew ?_ | refine Bel.drewN ?_ _)); (try (replace HQ := Lib.hid (Blk.step hb12 (Blk.step hka HQ.out)))); replace HB := Lib.hid (Bel.step hb12 (Bel.step hka HB.out)); have hsz12 := hb12.size; have hsy12 := hka.size; (try simp only [World.size_alloc, World.size_drew, World.heap_drewN, World.size_setCell] at hsz12 hsy12); clear hka hb12
      have HE2 := Lib.hid (by have h := Blk.new w12 79 #[.int .i64 (fgLo xd xt - fgHi C.dg C.tn - pH), .int .i64 (fgHi xd xt - fgLo C.dg C.tn - pL)]; (try simp only [World.size_alloc] at h); exact h)
      replace HQ := Lib.hid (Blk.alloc (.cells #[.int .i64 (fgLo xd xt - fgHi C.dg C.tn - pH), .int .i64 (fgHi xd xt - fgLo C.dg C.tn - pL)] 79) HQ.out)
      replace HB := Lib.hid (Bel.alloc HB.out (.cells #[.int .i64 (fgLo xd xt - fgHi C.dg C.tn - pH), .int .i64 (fgHi xd xt - fgLo C.dg C.tn - pL)] 79))
      go_wp2_with (first | (refine wpList_load_blkG 79 _ _ (Blk.step (Bel.ka0 HB.out (by repeat (with_reducible first | exact Below.refl _ _ | refine Bel.alloc ?_ _ | refine Below.drew ?_ | refine Bel.drewN ?_ _))) HE2.out) Try.underlying79 (by kernel_rfl) rfl rfl (by rfl) ?_) | (refine wpList_load_blkG 79 _ _ (Blk.step (Bel.ka0 HB.out (by repeat (with_reducible first | exact Below.refl _ _ | refine Bel.alloc ?_ _ | refine Below.drew ?_ | refine Bel.drewN ?_ _))) HQ.out) Try.underlying79 (by kernel_rfl) rfl rfl (by rfl) ?_))
      go_at_call 50; refine (inside_c (fgLo xd xt - fgHi C.dg C.tn - pH) (fgHi xd xt - fgLo C.dg C.tn - pL) qL qH j1 j2 _).mono ?_; rintro e w13 ⟨rfl, hb13⟩; have hka := Bel.ka HB.out hb13 (by repeat (with_reducible first | exact Below.refl _ _ | refine Bel.alloc ?_ _ | refine Below.drew ?_ | refine Bel.drewN ?_ _)); (try (replace HQ := Lib.hid (Blk.step hb13 (Blk.step hka HQ.out)))); replace HB := Lib.hid (Bel.step hb13 (Bel.step hka HB.out)); have hsz13 := hb13.size; have hsy13 := hka.size; (try simp only [World.size_alloc, World.size_drew, World.heap_drewN, World.size_setCell] at hsz13 hsy13); clear hka hb13
      go_wp2
      go_ret
      exact ⟨rfl, HB.out⟩
end Go.Proofs.Ythfphjbaglgacaa
