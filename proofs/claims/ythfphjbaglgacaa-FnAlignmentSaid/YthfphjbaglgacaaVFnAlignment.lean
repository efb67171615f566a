/- The statement FnAlignment, walked. No conditions. -/
import Derived.Test.YthfphjbaglgacaaProg
import Derived.Test.YthfphjbaglgacaaBase
import Derived.Test.YthfphjbaglgacaaRw
import Derived.Test.YthfphjbaglgacaaRg
import Derived.Test.YthfphjbaglgacaaL01
import Derived.Test.YthfphjbaglgacaaCp
import Derived.Test.YthfphjbaglgacaaL18
import Derived.Test.YthfphjbaglgacaaL23
import Derived.Test.YthfphjbaglgacaaL03
import Derived.Test.YthfphjbaglgacaaL24
import Derived.Test.YthfphjbaglgacaaL24b
import Derived.Test.YthfphjbaglgacaaL24c
import Derived.Test.YthfphjbaglgacaaL24d
import Derived.Test.YthfphjbaglgacaaL24f
import Derived.Test.YthfphjbaglgacaaL24g
import Derived.Test.YthfphjbaglgacaaL04
import Derived.Test.YthfphjbaglgacaaL24r
import Derived.Test.YthfphjbaglgacaaM24
import Derived.Test.YthfphjbaglgacaaM24r
import Derived.Test.YthfphjbaglgacaaE24
import Derived.Test.YthfphjbaglgacaaE24f
import Derived.Test.YthfphjbaglgacaaE24p
import Derived.Test.YthfphjbaglgacaaD00
import Derived.Test.YthfphjbaglgacaaD01
import Derived.Test.YthfphjbaglgacaaD24
import Derived.WalkKit
import Derived.WalkSpells
import Derived.WalkLawsBesides
import Derived.Lib.Hide
import Derived.Deep.QuietTactic
import Derived.BigQuiet
import Derived.Deep.Draws
import Derived.Deep.RegionHeld3
import Derived.Deep.Cut
namespace Go.Proofs.Ythfphjbaglgacaa
open Go.RowKit
set_option linter.unusedVariables false
set_option linter.unusedSimpArgs false
set_option maxRecDepth 50000 in
set_option maxHeartbeats 4000000 in
theorem FnAlignment_w (w : World) (A : Option Addr) (c : Nat) (zs : List Int) (hl : zs.length ≤ 9223372036854775807) (hA : Byts w A zs) :
    Calls Try.prog 8 #[.slice A zs.length c] w fun e w' => e = .returned (.bool true) ∧ Below w.heap.size w w' := by
  have HB := Lib.hid (Below.refl w.heap.size w)
  by_cases hz : zs.length ≤ 4096
  rotate_left
  · go_enter Try.func8, Try.ntmps8
    go_wp2_with fail
    go_at_call 9; refine (big_yes A c zs.length (by omega) _).mono ?_; rintro e w' ⟨rfl, rfl⟩
    go_wp2
    go_ret
    exact ⟨rfl, HB.out⟩
  have HA := Lib.hid hA
  clear hA hl
  go_enter Try.func8, Try.ntmps8
  go_wp2_with fail
  go_at_call 9; refine (big_no A c zs.length hz _).mono ?_; rintro e w' ⟨rfl, rfl⟩
  go_wp2_with fail
  go_at_call 62; refine (DrawReadChart_c A c zs hz _ HA.out).mono ?_; rintro e w1 ⟨C, g, q, ud, ut, vd, vt, x, rfl, hn0, hm0, hO, hb1⟩; have hka := Bel.ka HB.out hb1 (by repeat (with_reducible first | exact Below.refl _ _ | refine Bel.alloc ?_ _ | refine Below.drew ?_ | refine Bel.drewN ?_ _)); replace HB := Lib.hid (Bel.step hb1 (Bel.step hka HB.out)); have hsz1 := hb1.size; have hsy1 := hka.size; (try simp only [World.size_alloc, World.size_drew, World.heap_drewN, World.size_setCell] at hsz1 hsy1); clear hka hb1
  have HI := Lib.hid hO.ints
  have hn : C.zs.length ≤ 1048576 := by omega
  have hm : C.nm.size ≤ 1048576 := by omega
  clear hO hn0 hm0 HA
  have HC := Lib.hid (by have h := Blk.new w1 75 #[.int .i64 C.dg, .int .i64 C.tn, .string C.nm, .slice (some ⟨g, 0, none⟩) C.zs.length q, .int .i64 C.wd, .int .i64 C.lf, .int .i64 C.rt]; (try simp only [World.size_alloc] at h); exact h)
  replace HI := Lib.hid (Ints.alloc (.cells #[.int .i64 C.dg, .int .i64 C.tn, .string C.nm, .slice (some ⟨g, 0, none⟩) C.zs.length q, .int .i64 C.wd, .int .i64 C.lf, .int .i64 C.rt] 75) HI.out)
  replace HB := Lib.hid (Bel.alloc HB.out (.cells #[.int .i64 C.dg, .int .i64 C.tn, .string C.nm, .slice (some ⟨g, 0, none⟩) C.zs.length q, .int .i64 C.wd, .int .i64 C.lf, .int .i64 C.rt] 75))
  have HU := Lib.hid (by have h := Blk.new (w1.alloc (.cells #[.int .i64 C.dg, .int .i64 C.tn, .string C.nm, .slice (some ⟨g, 0, none⟩) C.zs.length q, .int .i64 C.wd, .int .i64 C.lf, .int .i64 C.rt] 75)) 71 #[.int .i64 ud, .int .i64 ut]; (try simp only [World.size_alloc] at h); exact h)
  replace HC := Lib.hid (Blk.alloc (.cells #[.int .i64 ud, .int .i64 ut] 71) HC.out)
  replace HI := Lib.hid (Ints.alloc (.cells #[.int .i64 ud, .int .i64 ut] 71) HI.out)
  replace HB := Lib.hid (Bel.alloc HB.out (.cells #[.int .i64 ud, .int .i64 ut] 71))
  have HV := Lib.hid (by have h := Blk.new ((w1.alloc (.cells #[.int .i64 C.dg, .int .i64 C.tn, .string C.nm, .slice (some ⟨g, 0, none⟩) C.zs.length q, .int .i64 C.wd, .int .i64 C.lf, .int .i64 C.rt] 75)).alloc (.cells #[.int .i64 ud, .int .i64 ut] 71)) 71 #[.int .i64 vd, .int .i64 vt]; (try simp only [World.size_alloc] at h); exact h)
  replace HC := Lib.hid (Blk.alloc (.cells #[.int .i64 vd, .int .i64 vt] 71) HC.out)
  replace HU := Lib.hid (Blk.alloc (.cells #[.int .i64 vd, .int .i64 vt] 71) HU.out)
  replace HI := Lib.hid (Ints.alloc (.cells #[.int .i64 vd, .int .i64 vt] 71) HI.out)
  replace HB := Lib.hid (Bel.alloc HB.out (.cells #[.int .i64 vd, .int .i64 vt] 71))
  go_wp2_with (first | (refine wpList_load_blkG 75 _ _ (Blk.step (Bel.ka0 HB.out (by repeat (with_reducible first | exact Below.refl _ _ | refine Bel.alloc ?_ _ | refine Below.drew ?_ | refine Bel.drewN ?_ _))) HC.out) Try.underlying75 (by kernel_rfl) rfl rfl (by rfl) ?_) | (refine wpList_load_blkG 71 _ _ (Blk.step (Bel.ka0 HB.out (by repeat (with_reducible first | exact Below.refl _ _ | refine Bel.alloc ?_ _ | refine Below.drew ?_ | refine Bel.drewN ?_ _))) HU.out) Try.underlying71 (by kernel_rfl) rfl rfl (by rfl) ?_) | (refine wpList_load_blkG 71 _ _ (Blk.step (Bel.ka0 HB.out (by repeat (with_reducible first | exact Below.refl _ _ | refine Bel.alloc ?_ _ | refine Below.drew ?_ | refine Bel.drewN ?_ _))) HV.out) Try.underlying71 (by kernel_rfl) rfl rfl (by rfl) ?_))
  go_at_call 63; refine (ReadChart_I C _ _ ud ut vd vt x hn hm _ (by repeat (with_reducible first | exact HI.out | assumption | refine Ints.drew ?_ | refine Ints.drewN _ ?_ | refine Ints.alloc _ ?_ | refine Ints.step (by assumption) ?_))).mono ?_; rintro e w2 ⟨rfl, hb2⟩; have hka := Bel.ka HB.out hb2 (by repeat (with_reducible first | exact Below.refl _ _ | refine Bel.alloc ?_ _ | refine Below.drew ?_ | refine Bel.drewN ?_ _)); (try (replace HC := Lib.hid (Blk.step hb2 (Blk.step hka HC.out)))); (try (replace HU := Lib.hid (Blk.step hb2 (Blk.step hka HU.out)))); (try (replace HV := Lib.hid (Blk.step hb2 (Blk.step hka HV.out)))); (try (replace HI := Lib.hid (Ints.step hb2 (Ints.step hka HI.out)))); replace HB := Lib.hid (Bel.step hb2 (Bel.step hka HB.out)); have hsz2 := hb2.size; have hsy2 := hka.size; (try simp only [World.size_alloc, World.size_drew, World.heap_drewN, World.size_setCell] at hsz2 hsy2); clear hka hb2
  obtain ⟨k, hk⟩ : ∃ k, k = rqC C ud ut vd vt x := ⟨_, rfl⟩
  obtain ⟨aL, haL⟩ : ∃ k, k = rqL C ud ut vd vt x := ⟨_, rfl⟩
  obtain ⟨aH, haH⟩ : ∃ k, k = rqH C ud ut vd vt x := ⟨_, rfl⟩
  rw [← hk, ← haL, ← haH]
  have HK := Lib.hid hk
  have HaL := Lib.hid haL
  have HaH := Lib.hid haH
  clear hk haL haH
  have HX := Lib.hid (by have h := Blk.new w2 79 #[.int .i64 aL, .int .i64 aH]; (try simp only [World.size_alloc] at h); exact h)
  replace HC := Lib.hid (Blk.alloc (.cells #[.int .i64 aL, .int .i64 aH] 79) HC.out)
  replace HU := Lib.hid (Blk.alloc (.cells #[.int .i64 aL, .int .i64 aH] 79) HU.out)
  replace HV := Lib.hid (Blk.alloc (.cells #[.int .i64 aL, .int .i64 aH] 79) HV.out)
  replace HI := Lib.hid (Ints.alloc (.cells #[.int .i64 aL, .int .i64 aH] 79) HI.out)
  replace HB := Lib.hid (Bel.alloc HB.out (.cells #[.int .i64 aL, .int .i64 aH] 79))
  go_wp2_with (first | (refine wpList_load_blkG 75 _ _ (Blk.step (Bel.ka0 HB.out (by repeat (with_reducible first | exact Below.refl _ _ | refine Bel.alloc ?_ _ | refine Below.drew ?_ | refine Bel.drewN ?_ _))) HC.out) Try.underlying75 (by kernel_rfl) rfl rfl (by rfl) ?_) | (refine wpList_load_blkG 71 _ _ (Blk.step (Bel.ka0 HB.out (by repeat (with_reducible first | exact Below.refl _ _ | refine Bel.alloc ?_ _ | refine Below.drew ?_ | refine Bel.drewN ?_ _))) HU.out) Try.underlying71 (by kernel_rfl) rfl rfl (by rfl) ?_) | (refine wpList_load_blkG 71 _ _ (Blk.step (Bel.ka0 HB.out (by repeat (with_reducible first | exact Below.refl _ _ | refine Bel.alloc ?_ _ | refine Below.drew ?_ | refine Bel.drewN ?_ _))) HV.out) Try.underlying71 (by kernel_rfl) rfl rfl (by rfl) ?_))
  go_at_call 64; refine (ReadChart_S C _ _ ud ut vd vt x hn hm _ (by repeat (with_reducible first | exact HI.out | assumption | refine Ints.drew ?_ | refine Ints.drewN _ ?_ | refine Ints.alloc _ ?_ | refine Ints.step (by assumption) ?_))).mono ?_; rintro e w3 ⟨rfl, hb3⟩; have hka := Bel.ka HB.out hb3 (by repeat (with_reducible first | exact Below.refl _ _ | refine Bel.alloc ?_ _ | refine Below.drew ?_ | refine Bel.drewN ?_ _)); (try (replace HC := Lib.hid (Blk.step hb3 (Blk.step hka HC.out)))); (try (replace HU := Lib.hid (Blk.step hb3 (Blk.step hka HU.out)))); (try (replace HV := Lib.hid (Blk.step hb3 (Blk.step hka HV.out)))); (try (replace HX := Lib.hid (Blk.step hb3 (Blk.step hka HX.out)))); (try (replace HI := Lib.hid (Ints.step hb3 (Ints.step hka HI.out)))); replace HB := Lib.hid (Bel.step hb3 (Bel.step hka HB.out)); have hsz3 := hb3.size; have hsy3 := hka.size; (try simp only [World.size_alloc, World.size_drew, World.heap_drewN, World.size_setCell] at hsz3 hsy3); clear hka hb3
  rw [← HK.out, ← HaL.out, ← HaH.out]
  have HX2 := Lib.hid (by have h := Blk.new w3 79 #[.int .i64 aL, .int .i64 aH]; (try simp only [World.size_alloc] at h); exact h)
  replace HC := Lib.hid (Blk.alloc (.cells #[.int .i64 aL, .int .i64 aH] 79) HC.out)
  replace HU := Lib.hid (Blk.alloc (.cells #[.int .i64 aL, .int .i64 aH] 79) HU.out)
  replace HV := Lib.hid (Blk.alloc (.cells #[.int .i64 aL, .int .i64 aH] 79) HV.out)
  replace HX := Lib.hid (Blk.alloc (.cells #[.int .i64 aL, .int .i64 aH] 79) HX.out)
  replace HI := Lib.hid (Ints.alloc (.cells #[.int .i64 aL, .int .i64 aH] 79) HI.out)
  replace HB := Lib.hid (Bel.alloc HB.out (.cells #[.int .i64 aL, .int .i64 aH] 79))
  go_wp2_with (first | (refine wpList_load_blkG 75 _ _ (Blk.step (Bel.ka0 HB.out (by repeat (with_reducible first | exact Below.refl _ _ | refine Bel.alloc ?_ _ | refine Below.drew ?_ | refine Bel.drewN ?_ _))) HC.out) Try.underlying75 (by kernel_rfl) rfl rfl (by rfl) ?_) | (refine wpList_load_blkG 71 _ _ (Blk.step (Bel.ka0 HB.out (by repeat (with_reducible first | exact Below.refl _ _ | refine Bel.alloc ?_ _ | refine Below.drew ?_ | refine Bel.drewN ?_ _))) HU.out) Try.underlying71 (by kernel_rfl) rfl rfl (by rfl) ?_) | (refine wpList_load_blkG 71 _ _ (Blk.step (Bel.ka0 HB.out (by repeat (with_reducible first | exact Below.refl _ _ | refine Bel.alloc ?_ _ | refine Below.drew ?_ | refine Bel.drewN ?_ _))) HV.out) Try.underlying71 (by kernel_rfl) rfl rfl (by rfl) ?_))
  go_at_call 65; refine (LineHeights_I C _ _ ud ut vd vt hn hm _ (by repeat (with_reducible first | exact HI.out | assumption | refine Ints.drew ?_ | refine Ints.drewN _ ?_ | refine Ints.alloc _ ?_ | refine Ints.step (by assumption) ?_))).mono ?_; rintro e w4 ⟨rfl, hb4⟩; have hka := Bel.ka HB.out hb4 (by repeat (with_reducible first | exact Below.refl _ _ | refine Bel.alloc ?_ _ | refine Below.drew ?_ | refine Bel.drewN ?_ _)); (try (replace HC := Lib.hid (Blk.step hb4 (Blk.step hka HC.out)))); (try (replace HU := Lib.hid (Blk.step hb4 (Blk.step hka HU.out)))); (try (replace HV := Lib.hid (Blk.step hb4 (Blk.step hka HV.out)))); (try (replace HX := Lib.hid (Blk.step hb4 (Blk.step hka HX.out)))); (try (replace HX2 := Lib.hid (Blk.step hb4 (Blk.step hka HX2.out)))); (try (replace HI := Lib.hid (Ints.step hb4 (Ints.step hka HI.out)))); replace HB := Lib.hid (Bel.step hb4 (Bel.step hka HB.out)); have hsz4 := hb4.size; have hsy4 := hka.size; (try simp only [World.size_alloc, World.size_drew, World.heap_drewN, World.size_setCell] at hsz4 hsy4); clear hka hb4
  obtain ⟨m, hk⟩ : ∃ k, k = lqC C ud ut vd vt := ⟨_, rfl⟩
  obtain ⟨yL, haL⟩ : ∃ k, k = lqL C ud ut vd vt := ⟨_, rfl⟩
  obtain ⟨yH, haH⟩ : ∃ k, k = lqH C ud ut vd vt := ⟨_, rfl⟩
  rw [← hk, ← haL, ← haH]
  have HM := Lib.hid hk
  have HyL := Lib.hid haL
  have HyH := Lib.hid haH
  clear hk haL haH
  have HY := Lib.hid (by have h := Blk.new w4 79 #[.int .i64 yL, .int .i64 yH]; (try simp only [World.size_alloc] at h); exact h)
  replace HC := Lib.hid (Blk.alloc (.cells #[.int .i64 yL, .int .i64 yH] 79) HC.out)
  replace HU := Lib.hid (Blk.alloc (.cells #[.int .i64 yL, .int .i64 yH] 79) HU.out)
  replace HV := Lib.hid (Blk.alloc (.cells #[.int .i64 yL, .int .i64 yH] 79) HV.out)
  replace HX := Lib.hid (Blk.alloc (.cells #[.int .i64 yL, .int .i64 yH] 79) HX.out)
  replace HX2 := Lib.hid (Blk.alloc (.cells #[.int .i64 yL, .int .i64 yH] 79) HX2.out)
  replace HI := Lib.hid (Ints.alloc (.cells #[.int .i64 yL, .int .i64 yH] 79) HI.out)
  replace HB := Lib.hid (Bel.alloc HB.out (.cells #[.int .i64 yL, .int .i64 yH] 79))
  go_wp2_with (first | (refine wpList_load_blkG 75 _ _ (Blk.step (Bel.ka0 HB.out (by repeat (with_reducible first | exact Below.refl _ _ | refine Bel.alloc ?_ _ | refine Below.drew ?_ | refine Bel.drewN ?_ _))) HC.out) Try.underlying75 (by kernel_rfl) rfl rfl (by rfl) ?_) | (refine wpList_load_blkG 71 _ _ (Blk.step (Bel.ka0 HB.out (by repeat (with_reducible first | exact Below.refl _ _ | refine Bel.alloc ?_ _ | refine Below.drew ?_ | refine Bel.drewN ?_ _))) HU.out) Try.underlying71 (by kernel_rfl) rfl rfl (by rfl) ?_) | (refine wpList_load_blkG 71 _ _ (Blk.step (Bel.ka0 HB.out (by repeat (with_reducible first | exact Below.refl _ _ | refine Bel.alloc ?_ _ | refine Below.drew ?_ | refine Bel.drewN ?_ _))) HV.out) Try.underlying71 (by kernel_rfl) rfl rfl (by rfl) ?_))
  go_at_call 66; refine (LineHeights_S C _ _ ud ut vd vt hn hm _ (by repeat (with_reducible first | exact HI.out | assumption | refine Ints.drew ?_ | refine Ints.drewN _ ?_ | refine Ints.alloc _ ?_ | refine Ints.step (by assumption) ?_))).mono ?_; rintro e w5 ⟨rfl, hb5⟩; have hka := Bel.ka HB.out hb5 (by repeat (with_reducible first | exact Below.refl _ _ | refine Bel.alloc ?_ _ | refine Below.drew ?_ | refine Bel.drewN ?_ _)); (try (replace HC := Lib.hid (Blk.step hb5 (Blk.step hka HC.out)))); (try (replace HU := Lib.hid (Blk.step hb5 (Blk.step hka HU.out)))); (try (replace HV := Lib.hid (Blk.step hb5 (Blk.step hka HV.out)))); (try (replace HX := Lib.hid (Blk.step hb5 (Blk.step hka HX.out)))); (try (replace HX2 := Lib.hid (Blk.step hb5 (Blk.step hka HX2.out)))); (try (replace HY := Lib.hid (Blk.step hb5 (Blk.step hka HY.out)))); (try (replace HI := Lib.hid (Ints.step hb5 (Ints.step hka HI.out)))); replace HB := Lib.hid (Bel.step hb5 (Bel.step hka HB.out)); have hsz5 := hb5.size; have hsy5 := hka.size; (try simp only [World.size_alloc, World.size_drew, World.heap_drewN, World.size_setCell] at hsz5 hsy5); clear hka hb5
  rw [← HM.out, ← HyL.out, ← HyH.out]
  have HY2 := Lib.hid (by have h := Blk.new w5 79 #[.int .i64 yL, .int .i64 yH]; (try simp only [World.size_alloc] at h); exact h)
  replace HC := Lib.hid (Blk.alloc (.cells #[.int .i64 yL, .int .i64 yH] 79) HC.out)
  replace HU := Lib.hid (Blk.alloc (.cells #[.int .i64 yL, .int .i64 yH] 79) HU.out)
  replace HV := Lib.hid (Blk.alloc (.cells #[.int .i64 yL, .int .i64 yH] 79) HV.out)
  replace HX := Lib.hid (Blk.alloc (.cells #[.int .i64 yL, .int .i64 yH] 79) HX.out)
  replace HX2 := Lib.hid (Blk.alloc (.cells #[.int .i64 yL, .int .i64 yH] 79) HX2.out)
  replace HY := Lib.hid (Blk.alloc (.cells #[.int .i64 yL, .int .i64 yH] 79) HY.out)
  replace HI := Lib.hid (Ints.alloc (.cells #[.int .i64 yL, .int .i64 yH] 79) HI.out)
  replace HB := Lib.hid (Bel.alloc HB.out (.cells #[.int .i64 yL, .int .i64 yH] 79))
  go_wp2_with (first | (refine wpList_load_blkG 75 _ _ (Blk.step (Bel.ka0 HB.out (by repeat (with_reducible first | exact Below.refl _ _ | refine Bel.alloc ?_ _ | refine Below.drew ?_ | refine Bel.drewN ?_ _))) HC.out) Try.underlying75 (by kernel_rfl) rfl rfl (by rfl) ?_) | (refine wpList_load_blkG 71 _ _ (Blk.step (Bel.ka0 HB.out (by repeat (with_reducible first | exact Below.refl _ _ | refine Bel.alloc ?_ _ | refine Below.drew ?_ | refine Bel.drewN ?_ _))) HU.out) Try.underlying71 (by kernel_rfl) rfl rfl (by rfl) ?_) | (refine wpList_load_blkG 71 _ _ (Blk.step (Bel.ka0 HB.out (by repeat (with_reducible first | exact Below.refl _ _ | refine Bel.alloc ?_ _ | refine Below.drew ?_ | refine Bel.drewN ?_ _))) HV.out) Try.underlying71 (by kernel_rfl) rfl rfl (by rfl) ?_))
  go_at_call 67; refine (ReadingError_I C _ _ ud ut vd vt x hn hm _ (by repeat (with_reducible first | exact HI.out | assumption | refine Ints.drew ?_ | refine Ints.drewN _ ?_ | refine Ints.alloc _ ?_ | refine Ints.step (by assumption) ?_))).mono ?_; rintro e w6 ⟨rfl, hb6⟩; have hka := Bel.ka HB.out hb6 (by repeat (with_reducible first | exact Below.refl _ _ | refine Bel.alloc ?_ _ | refine Below.drew ?_ | refine Bel.drewN ?_ _)); (try (replace HC := Lib.hid (Blk.step hb6 (Blk.step hka HC.out)))); (try (replace HU := Lib.hid (Blk.step hb6 (Blk.step hka HU.out)))); (try (replace HV := Lib.hid (Blk.step hb6 (Blk.step hka HV.out)))); (try (replace HX := Lib.hid (Blk.step hb6 (Blk.step hka HX.out)))); (try (replace HX2 := Lib.hid (Blk.step hb6 (Blk.step hka HX2.out)))); (try (replace HY := Lib.hid (Blk.step hb6 (Blk.step hka HY.out)))); (try (replace HY2 := Lib.hid (Blk.step hb6 (Blk.step hka HY2.out)))); (try (replace HI := Lib.hid (Ints.step hb6 (Ints.step hka HI.out)))); replace HB := Lib.hid (Bel.step hb6 (Bel.step hka HB.out)); have hsz6 := hb6.size; have hsy6 := hka.size; (try simp only [World.size_alloc, World.size_drew, World.heap_drewN, World.size_setCell] at hsz6 hsy6); clear hka hb6
  obtain ⟨n, hk⟩ : ∃ k, k = rrV C ud ut vd vt x := ⟨_, rfl⟩
  rw [← hk, ← HK.out]
  have HN := Lib.hid hk
  clear hk
  go_wp2_with (first | (refine wpList_load_blkG 75 _ _ (Blk.step (Bel.ka0 HB.out (by repeat (with_reducible first | exact Below.refl _ _ | refine Bel.alloc ?_ _ | refine Below.drew ?_ | refine Bel.drewN ?_ _))) HC.out) Try.underlying75 (by kernel_rfl) rfl rfl (by rfl) ?_) | (refine wpList_load_blkG 71 _ _ (Blk.step (Bel.ka0 HB.out (by repeat (with_reducible first | exact Below.refl _ _ | refine Bel.alloc ?_ _ | refine Below.drew ?_ | refine Bel.drewN ?_ _))) HU.out) Try.underlying71 (by kernel_rfl) rfl rfl (by rfl) ?_) | (refine wpList_load_blkG 71 _ _ (Blk.step (Bel.ka0 HB.out (by repeat (with_reducible first | exact Below.refl _ _ | refine Bel.alloc ?_ _ | refine Below.drew ?_ | refine Bel.drewN ?_ _))) HV.out) Try.underlying71 (by kernel_rfl) rfl rfl (by rfl) ?_))
  go_at_call 68; refine (ReadingError_S C _ _ ud ut vd vt x hn hm _ (by repeat (with_reducible first | exact HI.out | assumption | refine Ints.drew ?_ | refine Ints.drewN _ ?_ | refine Ints.alloc _ ?_ | refine Ints.step (by assumption) ?_))).mono ?_; rintro e w7 ⟨rfl, hb7⟩; have hka := Bel.ka HB.out hb7 (by repeat (with_reducible first | exact Below.refl _ _ | refine Bel.alloc ?_ _ | refine Below.drew ?_ | refine Bel.drewN ?_ _)); (try (replace HC := Lib.hid (Blk.step hb7 (Blk.step hka HC.out)))); (try (replace HU := Lib.hid (Blk.step hb7 (Blk.step hka HU.out)))); (try (replace HV := Lib.hid (Blk.step hb7 (Blk.step hka HV.out)))); (try (replace HX := Lib.hid (Blk.step hb7 (Blk.step hka HX.out)))); (try (replace HX2 := Lib.hid (Blk.step hb7 (Blk.step hka HX2.out)))); (try (replace HY := Lib.hid (Blk.step hb7 (Blk.step hka HY.out)))); (try (replace HY2 := Lib.hid (Blk.step hb7 (Blk.step hka HY2.out)))); (try (replace HI := Lib.hid (Ints.step hb7 (Ints.step hka HI.out)))); replace HB := Lib.hid (Bel.step hb7 (Bel.step hka HB.out)); have hsz7 := hb7.size; have hsy7 := hka.size; (try simp only [World.size_alloc, World.size_drew, World.heap_drewN, World.size_setCell] at hsz7 hsy7); clear hka hb7
  rw [← HK.out, ← HN.out]
  go_upto_region 12 with (first | (refine wpList_load_blkG 79 _ _ HX.out Try.underlying79 (by kernel_rfl) rfl rfl (by rfl) ?_) | (refine wpList_load_blkG 79 _ _ HX2.out Try.underlying79 (by kernel_rfl) rfl rfl (by rfl) ?_) | (refine wpList_load_blkG 79 _ _ HY.out Try.underlying79 (by kernel_rfl) rfl rfl (by rfl) ?_) | (refine wpList_load_blkG 79 _ _ HY2.out Try.underlying79 (by kernel_rfl) rfl rfl (by rfl) ?_))
  have HB0 := HB
  by_cases hk : k = 0
  rotate_left
  · have d1 : (k != 0) = true := by simpa using hk
    go_wp2
    go_ret
    exact ⟨rfl, HB0.out⟩
  have hF := al_facts (show rqC C ud ut vd vt x = 0 by rw [← HK.out]; exact hk)
  have HF := Lib.hid hF
  have HE := Lib.hid hF.c0
  subst hk
  clear hF
  have p0 : w7.cell? ⟨w1.heap.size, 0, none⟩ = some (.int .i64 C.dg) := HC.out.cell _
  have p1 : w7.cell? ⟨w1.heap.size, 1, none⟩ = some (.int .i64 C.tn) := HC.out.cell _
  have p2 : w7.cell? ⟨w1.heap.size, 2, none⟩ = some (.string C.nm) := HC.out.cell _
  have p3 : w7.cell? ⟨w1.heap.size, 3, none⟩ = some (.slice (some ⟨g, 0, none⟩) C.zs.length q) := HC.out.cell _
  go_wp2_with (first | (refine wpList_load_blkG 71 _ _ (Blk.step (Bel.ka0 HB.out (by repeat (with_reducible first | exact Below.refl _ _ | refine Bel.alloc ?_ _ | refine Below.drew ?_ | refine Bel.drewN ?_ _))) HU.out) Try.underlying71 (by kernel_rfl) rfl rfl (by rfl) ?_) | (refine wpList_load_blkG 71 _ _ (Blk.step (Bel.ka0 HB.out (by repeat (with_reducible first | exact Below.refl _ _ | refine Bel.alloc ?_ _ | refine Below.drew ?_ | refine Bel.drewN ?_ _))) HV.out) Try.underlying71 (by kernel_rfl) rfl rfl (by rfl) ?_))
  go_at_call 69; refine (FormulaLog_I C _ _ _ ud ut vd vt _ HF.out.ok HF.out.u HF.out.v hn _ (by repeat (with_reducible first | exact HI.out | assumption | refine Ints.drew ?_ | refine Ints.drewN _ ?_ | refine Ints.alloc _ ?_ | refine Ints.step (by assumption) ?_)) (Prs.mk2 _ _ _ _ _ _)).mono ?_; rintro e w8 ⟨rfl, hb8⟩; have hka := Bel.ka HB.out hb8 (by repeat (with_reducible first | exact Below.refl _ _ | refine Bel.alloc ?_ _ | refine Below.drew ?_ | refine Bel.drewN ?_ _)); (try (replace HC := Lib.hid (Blk.step hb8 (Blk.step hka HC.out)))); (try (replace HU := Lib.hid (Blk.step hb8 (Blk.step hka HU.out)))); (try (replace HV := Lib.hid (Blk.step hb8 (Blk.step hka HV.out)))); (try (replace HX := Lib.hid (Blk.step hb8 (Blk.step hka HX.out)))); (try (replace HY := Lib.hid (Blk.step hb8 (Blk.step hka HY.out)))); (try (replace HI := Lib.hid (Ints.step hb8 (Ints.step hka HI.out)))); replace HB := Lib.hid (Bel.step hb8 (Bel.step hka HB.out)); have hsz8 := hb8.size; have hsy8 := hka.size; (try simp only [World.size_alloc, World.size_drew, World.heap_drewN, World.size_setCell] at hsz8 hsy8); clear hka hb8
  clear p0 p1 p2 p3
  obtain ⟨fL, haL⟩ : ∃ k, k = fmL C ud ut vd vt := ⟨_, rfl⟩
  obtain ⟨fH, haH⟩ : ∃ k, k = fmH C ud ut vd vt := ⟨_, rfl⟩
  rw [← haL, ← haH]
  have HfL := Lib.hid haL
  have HfH := Lib.hid haH
  clear haL haH
  have HZ := Lib.hid (by have h := Blk.new w8 79 #[.int .i64 fL, .int .i64 fH]; (try simp only [World.size_alloc] at h); exact h)
  replace HC := Lib.hid (Blk.alloc (.cells #[.int .i64 fL, .int .i64 fH] 79) HC.out)
  replace HU := Lib.hid (Blk.alloc (.cells #[.int .i64 fL, .int .i64 fH] 79) HU.out)
  replace HV := Lib.hid (Blk.alloc (.cells #[.int .i64 fL, .int .i64 fH] 79) HV.out)
  replace HX := Lib.hid (Blk.alloc (.cells #[.int .i64 fL, .int .i64 fH] 79) HX.out)
  replace HY := Lib.hid (Blk.alloc (.cells #[.int .i64 fL, .int .i64 fH] 79) HY.out)
  replace HI := Lib.hid (Ints.alloc (.cells #[.int .i64 fL, .int .i64 fH] 79) HI.out)
  replace HB := Lib.hid (Bel.alloc HB.out (.cells #[.int .i64 fL, .int .i64 fH] 79))
  go_wp2_with (first | (refine wpList_load_blkG 75 _ _ (Blk.step (Bel.ka0 HB.out (by repeat (with_reducible first | exact Below.refl _ _ | refine Bel.alloc ?_ _ | refine Below.drew ?_ | refine Bel.drewN ?_ _))) HC.out) Try.underlying75 (by kernel_rfl) rfl rfl (by rfl) ?_) | (refine wpList_load_blkG 71 _ _ (Blk.step (Bel.ka0 HB.out (by repeat (with_reducible first | exact Below.refl _ _ | refine Bel.alloc ?_ _ | refine Below.drew ?_ | refine Bel.drewN ?_ _))) HU.out) Try.underlying71 (by kernel_rfl) rfl rfl (by rfl) ?_) | (refine wpList_load_blkG 71 _ _ (Blk.step (Bel.ka0 HB.out (by repeat (with_reducible first | exact Below.refl _ _ | refine Bel.alloc ?_ _ | refine Below.drew ?_ | refine Bel.drewN ?_ _))) HV.out) Try.underlying71 (by kernel_rfl) rfl rfl (by rfl) ?_))
  go_at_call 63; refine (ReadChart_I C _ _ ud ut vd vt 0 hn hm _ (by repeat (with_reducible first | exact HI.out | assumption | refine Ints.drew ?_ | refine Ints.drewN _ ?_ | refine Ints.alloc _ ?_ | refine Ints.step (by assumption) ?_))).mono ?_; rintro e w9 ⟨rfl, hb9⟩; have hka := Bel.ka HB.out hb9 (by repeat (with_reducible first | exact Below.refl _ _ | refine Bel.alloc ?_ _ | refine Below.drew ?_ | refine Bel.drewN ?_ _)); (try (replace HC := Lib.hid (Blk.step hb9 (Blk.step hka HC.out)))); (try (replace HU := Lib.hid (Blk.step hb9 (Blk.step hka HU.out)))); (try (replace HV := Lib.hid (Blk.step hb9 (Blk.step hka HV.out)))); (try (replace HX := Lib.hid (Blk.step hb9 (Blk.step hka HX.out)))); (try (replace HY := Lib.hid (Blk.step hb9 (Blk.step hka HY.out)))); (try (replace HZ := Lib.hid (Blk.step hb9 (Blk.step hka HZ.out)))); (try (replace HI := Lib.hid (Ints.step hb9 (Ints.step hka HI.out)))); replace HB := Lib.hid (Bel.step hb9 (Bel.step hka HB.out)); have hsz9 := hb9.size; have hsy9 := hka.size; (try simp only [World.size_alloc, World.size_drew, World.heap_drewN, World.size_setCell] at hsz9 hsy9); clear hka hb9
  rw [HE.out]
  obtain ⟨lL, haL⟩ : ∃ k, k = rqL C ud ut vd vt 0 := ⟨_, rfl⟩
  obtain ⟨lH, haH⟩ : ∃ k, k = rqH C ud ut vd vt 0 := ⟨_, rfl⟩
  rw [← haL, ← haH]
  have HlL := Lib.hid haL
  have HlH := Lib.hid haH
  clear haL haH
  have HW := Lib.hid (by have h := Blk.new w9 79 #[.int .i64 lL, .int .i64 lH]; (try simp only [World.size_alloc] at h); exact h)
  replace HC := Lib.hid (Blk.alloc (.cells #[.int .i64 lL, .int .i64 lH] 79) HC.out)
  replace HU := Lib.hid (Blk.alloc (.cells #[.int .i64 lL, .int .i64 lH] 79) HU.out)
  replace HV := Lib.hid (Blk.alloc (.cells #[.int .i64 lL, .int .i64 lH] 79) HV.out)
  replace HX := Lib.hid (Blk.alloc (.cells #[.int .i64 lL, .int .i64 lH] 79) HX.out)
  replace HY := Lib.hid (Blk.alloc (.cells #[.int .i64 lL, .int .i64 lH] 79) HY.out)
  replace HZ := Lib.hid (Blk.alloc (.cells #[.int .i64 lL, .int .i64 lH] 79) HZ.out)
  replace HI := Lib.hid (Ints.alloc (.cells #[.int .i64 lL, .int .i64 lH] 79) HI.out)
  replace HB := Lib.hid (Bel.alloc HB.out (.cells #[.int .i64 lL, .int .i64 lH] 79))
  have i1 : aL ≤ fL := by rw [HaL.out, HfL.out]; exact HF.out.lo
  have i2 : fH ≤ aH := by rw [HaH.out, HfH.out]; exact HF.out.hi
  have i3 : aL ≤ lL := by rw [HaL.out, HlL.out]; exact HF.out.lo0
  have i4 : lH ≤ aH := by rw [HaH.out, HlH.out]; exact HF.out.hi0
  have i5 : yL ≤ yH := by rw [HyL.out, HyH.out]; exact HF.out.y
  have i6 : 0 ≤ n := by rw [HN.out]; exact HF.out.n0
  have i7 : aH - aL - (fH - fL) - n ≤ n := by rw [HaL.out, HaH.out, HfL.out, HfH.out, HN.out]; exact HF.out.n
  have i8 : -10000000000000000 ≤ aL := by rw [HaL.out]; exact HF.out.b1.1
  have i9 : aH ≤ 10000000000000000 := by rw [HaH.out]; exact HF.out.b1.2
  have i10 : fL ≤ fH := by rw [HfL.out, HfH.out]; exact HF.out.fm
  have i11 : n ≤ 100000000000000000 := by rw [HN.out]; exact HF.out.nb
  go_wp2_with (first | (refine wpList_load_blkG 79 _ _ (Blk.step (Bel.ka0 HB.out (by repeat (with_reducible first | exact Below.refl _ _ | refine Bel.alloc ?_ _ | refine Below.drew ?_ | refine Bel.drewN ?_ _))) HX.out) Try.underlying79 (by kernel_rfl) rfl rfl (by rfl) ?_) | (refine wpList_load_blkG 79 _ _ (Blk.step (Bel.ka0 HB.out (by repeat (with_reducible first | exact Below.refl _ _ | refine Bel.alloc ?_ _ | refine Below.drew ?_ | refine Bel.drewN ?_ _))) HZ.out) Try.underlying79 (by kernel_rfl) rfl rfl (by rfl) ?_) | (refine wpList_load_blkG 79 _ _ (Blk.step (Bel.ka0 HB.out (by repeat (with_reducible first | exact Below.refl _ _ | refine Bel.alloc ?_ _ | refine Below.drew ?_ | refine Bel.drewN ?_ _))) HW.out) Try.underlying79 (by kernel_rfl) rfl rfl (by rfl) ?_))
  go_at_call 50; refine (inside_c fL fH aL aH i1 i2 _).mono ?_; rintro e w10 ⟨rfl, hb10⟩; have hka := Bel.ka HB.out hb10 (by repeat (with_reducible first | exact Below.refl _ _ | refine Bel.alloc ?_ _ | refine Below.drew ?_ | refine Bel.drewN ?_ _)); (try (replace HX := Lib.hid (Blk.step hb10 (Blk.step hka HX.out)))); (try (replace HY := Lib.hid (Blk.step hb10 (Blk.step hka HY.out)))); (try (replace HZ := Lib.hid (Blk.step hb10 (Blk.step hka HZ.out)))); (try (replace HW := Lib.hid (Blk.step hb10 (Blk.step hka HW.out)))); replace HB := Lib.hid (Bel.step hb10 (Bel.step hka HB.out)); have hsz10 := hb10.size; have hsy10 := hka.size; (try simp only [World.size_alloc, World.size_drew, World.heap_drewN, World.size_setCell] at hsz10 hsy10); clear hka hb10
  go_wp2_with (first | (refine wpList_load_blkG 79 _ _ (Blk.step (Bel.ka0 HB.out (by repeat (with_reducible first | exact Below.refl _ _ | refine Bel.alloc ?_ _ | refine Below.drew ?_ | refine Bel.drewN ?_ _))) HX.out) Try.underlying79 (by kernel_rfl) rfl rfl (by rfl) ?_) | (refine wpList_load_blkG 79 _ _ (Blk.step (Bel.ka0 HB.out (by repeat (with_reducible first | exact Below.refl _ _ | refine Bel.alloc ?_ _ | refine Below.drew ?_ | refine Bel.drewN ?_ _))) HZ.out) Try.underlying79 (by kernel_rfl) rfl rfl (by rfl) ?_) | (refine wpList_load_blkG 79 _ _ (Blk.step (Bel.ka0 HB.out (by repeat (with_reducible first | exact Below.refl _ _ | refine Bel.alloc ?_ _ | refine Below.drew ?_ | refine Bel.drewN ?_ _))) HW.out) Try.underlying79 (by kernel_rfl) rfl rfl (by rfl) ?_))
  go_at_call 50; refine (inside_c lL lH aL aH i3 i4 _).mono ?_; rintro e w11 ⟨rfl, hb11⟩; have hka := Bel.ka HB.out hb11 (by repeat (with_reducible first | exact Below.refl _ _ | refine Bel.alloc ?_ _ | refine Below.drew ?_ | refine Bel.drewN ?_ _)); (try (replace HX := Lib.hid (Blk.step hb11 (Blk.step hka HX.out)))); (try (replace HY := Lib.hid (Blk.step hb11 (Blk.step hka HY.out)))); (try (replace HZ := Lib.hid (Blk.step hb11 (Blk.step hka HZ.out)))); (try (replace HW := Lib.hid (Blk.step hb11 (Blk.step hka HW.out)))); replace HB := Lib.hid (Bel.step hb11 (Bel.step hka HB.out)); have hsz11 := hb11.size; have hsy11 := hka.size; (try simp only [World.size_alloc, World.size_drew, World.heap_drewN, World.size_setCell] at hsz11 hsy11); clear hka hb11
  have x0 : w11.cell? ⟨w2.heap.size, 0, none⟩ = some (.int .i64 aL) := HX.out.cell _
  have x1 : w11.cell? ⟨w2.heap.size, 1, none⟩ = some (.int .i64 aH) := HX.out.cell _
  have y0 : w11.cell? ⟨w4.heap.size, 0, none⟩ = some (.int .i64 yL) := HY.out.cell _
  have y1 : w11.cell? ⟨w4.heap.size, 1, none⟩ = some (.int .i64 yH) := HY.out.cell _
  have z0 : w11.cell? ⟨w8.heap.size, 0, none⟩ = some (.int .i64 fL) := HZ.out.cell _
  have z1 : w11.cell? ⟨w8.heap.size, 1, none⟩ = some (.int .i64 fH) := HZ.out.cell _
  go_wp2
  go_ret
  exact ⟨rfl, HB.out⟩
end Go.Proofs.Ythfphjbaglgacaa
