/- The statement FnChartSpans, walked. No conditions. -/
import Derived.Test.YtpmcgicopogbhaaProg
import Derived.Test.YtpmcgicopogbhaaBase
import Derived.Test.YtpmcgicopogbhaaRw
import Derived.Test.YtpmcgicopogbhaaRg
import Derived.Test.YtpmcgicopogbhaaL01
import Derived.Test.YtpmcgicopogbhaaCp
import Derived.Test.YtpmcgicopogbhaaL18
import Derived.Test.YtpmcgicopogbhaaL23
import Derived.Test.YtpmcgicopogbhaaL03
import Derived.Test.YtpmcgicopogbhaaL04
import Derived.Test.YtpmcgicopogbhaaL24
import Derived.Test.YtpmcgicopogbhaaL24b
import Derived.Test.YtpmcgicopogbhaaL24c
import Derived.Test.YtpmcgicopogbhaaL24d
import Derived.Test.YtpmcgicopogbhaaL24e
import Derived.Test.YtpmcgicopogbhaaL24s
import Derived.Test.YtpmcgicopogbhaaL24p
import Derived.Test.YtpmcgicopogbhaaL27o
import Derived.Test.YtpmcgicopogbhaaP24s
import Derived.Test.YtpmcgicopogbhaaE24
import Derived.Test.YtpmcgicopogbhaaE24b
import Derived.Test.YtpmcgicopogbhaaE23
import Derived.Test.YtpmcgicopogbhaaD00
import Derived.Test.YtpmcgicopogbhaaD01
import Derived.Test.YtpmcgicopogbhaaD24
import Derived.Test.YtpmcgicopogbhaaD24b
import Derived.WalkKit
import Derived.WalkSpells
import Derived.WalkLawsBesides
import Derived.Lib.Hide
import Derived.Deep.QuietTactic
import Derived.BigQuiet
import Derived.Deep.Draws
import Derived.Deep.RegionHeld3
import Derived.Deep.Cut
namespace Go.Proofs.Ytpmcgicopogbhaa
open Go.RowKit
set_option linter.unusedVariables false
set_option linter.unusedSimpArgs false
theorem btB_iff {a b c d e f : Int} (h : btB a b c d e f = true) : okF a b = true ∧ okF c d = true ∧ okF e f = true ∧ (decide (fc a b c d ≤ 0) && decide (fc c d e f ≤ 0)) = true := by
  simp only [btB, Bool.and_eq_true] at h
  exact ⟨h.1.1.1.1, h.1.1.1.2, h.1.1.2, by rw [h.1.2, h.2]; rfl⟩
theorem between_yes {a b c d e f : Int} (h : btB a b c d e f = true) (w : World) :
    Calls Try.prog 39 #[.agg #[.int .i64 a, .int .i64 b], .agg #[.int .i64 c, .int .i64 d], .agg #[.int .i64 e, .int .i64 f]] w fun r w' => r = .returned (.bool true) ∧ Below w.heap.size w w' := by
  obtain ⟨h1, h2, h3, h4⟩ := btB_iff h
  have := between_c a b c d e f h1 h2 h3 w
  rw [h4] at this
  exact this
set_option maxRecDepth 50000 in
set_option maxHeartbeats 32000000 in
theorem FnChartSpans_w (w : World) (A : Option Addr) (c : Nat) (zs : List Int) (hl : zs.length ≤ 9223372036854775807) (hA : Byts w A zs) :
    Calls Try.prog 5 #[.slice A zs.length c] w fun e w' => e = .returned (.bool true) ∧ Below w.heap.size w w' := by
  have HB := Lib.hid (Below.refl w.heap.size w)
  by_cases hz : zs.length ≤ 4096
  rotate_left
  · go_enter Try.func5, Try.ntmps5
    go_wp2_with fail
    go_at_call 8; refine (big_yes A c zs.length (by omega) _).mono ?_; rintro e w' ⟨rfl, rfl⟩
    go_wp2
    go_ret
    exact ⟨rfl, HB.out⟩
  have HA := Lib.hid hA
  clear hA hl
  go_enter Try.func5, Try.ntmps5
  go_wp2_with fail
  go_at_call 8; refine (big_no A c zs.length hz _).mono ?_; rintro e w' ⟨rfl, rfl⟩
  go_wp2_with fail
  go_at_call 31; refine (DrawChartSpan_c A c zs hz _ HA.out).mono ?_; rintro e w1 ⟨C, g, q, ud, ut, vd, vt, x, rfl, hn0, hm0, hO, hb1⟩; have hka := Bel.ka HB.out hb1 (by repeat (with_reducible first | exact Below.refl _ _ | refine Bel.alloc ?_ _ | refine Below.drew ?_ | refine Bel.drewN ?_ _)); (try (replace HA := Lib.hid (Byts.step hb1 (Byts.step hka HA.out)))); replace HB := Lib.hid (Bel.step hb1 (Bel.step hka HB.out)); have hsz1 := hb1.size; have hsy1 := hka.size; (try simp only [World.size_alloc, World.size_drew, World.heap_drewN, World.size_setCell] at hsz1 hsy1); clear hka hb1
  have HI := Lib.hid hO.ints
  have hn : C.zs.length ≤ 1048576 := by omega
  have hm : C.nm.size ≤ 1048576 := by omega
  clear hO hn0 hm0
  have HC := Lib.hid (by have h := Blk.new w1 30 #[.int .i64 C.dg, .int .i64 C.tn, .string C.nm, .slice (some ⟨g, 0, none⟩) C.zs.length q, .int .i64 C.wd, .int .i64 C.lf, .int .i64 C.rt]; (try simp only [World.size_alloc] at h); exact h)
  replace HI := Lib.hid (Ints.alloc (.cells #[.int .i64 C.dg, .int .i64 C.tn, .string C.nm, .slice (some ⟨g, 0, none⟩) C.zs.length q, .int .i64 C.wd, .int .i64 C.lf, .int .i64 C.rt] 30) HI.out)
  replace HA := Lib.hid (Byts.alloc (.cells #[.int .i64 C.dg, .int .i64 C.tn, .string C.nm, .slice (some ⟨g, 0, none⟩) C.zs.length q, .int .i64 C.wd, .int .i64 C.lf, .int .i64 C.rt] 30) HA.out)
  replace HB := Lib.hid (Bel.alloc HB.out (.cells #[.int .i64 C.dg, .int .i64 C.tn, .string C.nm, .slice (some ⟨g, 0, none⟩) C.zs.length q, .int .i64 C.wd, .int .i64 C.lf, .int .i64 C.rt] 30))
  have HU := Lib.hid (by have h := Blk.new (w1.alloc (.cells #[.int .i64 C.dg, .int .i64 C.tn, .string C.nm, .slice (some ⟨g, 0, none⟩) C.zs.length q, .int .i64 C.wd, .int .i64 C.lf, .int .i64 C.rt] 30)) 25 #[.int .i64 ud, .int .i64 ut]; (try simp only [World.size_alloc] at h); exact h)
  replace HC := Lib.hid (Blk.alloc (.cells #[.int .i64 ud, .int .i64 ut] 25) HC.out)
  replace HI := Lib.hid (Ints.alloc (.cells #[.int .i64 ud, .int .i64 ut] 25) HI.out)
  replace HA := Lib.hid (Byts.alloc (.cells #[.int .i64 ud, .int .i64 ut] 25) HA.out)
  replace HB := Lib.hid (Bel.alloc HB.out (.cells #[.int .i64 ud, .int .i64 ut] 25))
  have HV := Lib.hid (by have h := Blk.new ((w1.alloc (.cells #[.int .i64 C.dg, .int .i64 C.tn, .string C.nm, .slice (some ⟨g, 0, none⟩) C.zs.length q, .int .i64 C.wd, .int .i64 C.lf, .int .i64 C.rt] 30)).alloc (.cells #[.int .i64 ud, .int .i64 ut] 25)) 25 #[.int .i64 vd, .int .i64 vt]; (try simp only [World.size_alloc] at h); exact h)
  replace HC := Lib.hid (Blk.alloc (.cells #[.int .i64 vd, .int .i64 vt] 25) HC.out)
  replace HU := Lib.hid (Blk.alloc (.cells #[.int .i64 vd, .int .i64 vt] 25) HU.out)
  replace HI := Lib.hid (Ints.alloc (.cells #[.int .i64 vd, .int .i64 vt] 25) HI.out)
  replace HA := Lib.hid (Byts.alloc (.cells #[.int .i64 vd, .int .i64 vt] 25) HA.out)
  replace HB := Lib.hid (Bel.alloc HB.out (.cells #[.int .i64 vd, .int .i64 vt] 25))
  go_wp2_with (first | (refine wpList_load_blkG 30 _ _ (Blk.step (Bel.ka0 HB.out (by repeat (with_reducible first | exact Below.refl _ _ | refine Bel.alloc ?_ _ | refine Below.drew ?_ | refine Bel.drewN ?_ _))) HC.out) Try.underlying30 (by kernel_rfl) rfl rfl (by rfl) ?_) | (refine wpList_load_blkG 25 _ _ (Blk.step (Bel.ka0 HB.out (by repeat (with_reducible first | exact Below.refl _ _ | refine Bel.alloc ?_ _ | refine Below.drew ?_ | refine Bel.drewN ?_ _))) HU.out) Try.underlying25 (by kernel_rfl) rfl rfl (by rfl) ?_) | (refine wpList_load_blkG 25 _ _ (Blk.step (Bel.ka0 HB.out (by repeat (with_reducible first | exact Below.refl _ _ | refine Bel.alloc ?_ _ | refine Below.drew ?_ | refine Bel.drewN ?_ _))) HV.out) Try.underlying25 (by kernel_rfl) rfl rfl (by rfl) ?_))
  go_at_call 32; refine (ChartSpan_I C (some ⟨g, 0, none⟩) q ud ut vd vt x hn hm _ (by repeat (with_reducible first | exact HI.out | assumption | refine Ints.drew ?_ | refine Ints.drewN _ ?_ | refine Ints.alloc _ ?_ | refine Ints.step (by assumption) ?_))).mono ?_; rintro e w2 ⟨rfl, hb2⟩; have hka := Bel.ka HB.out hb2 (by repeat (with_reducible first | exact Below.refl _ _ | refine Bel.alloc ?_ _ | refine Below.drew ?_ | refine Bel.drewN ?_ _)); (try (replace HC := Lib.hid (Blk.step hb2 (Blk.step hka HC.out)))); (try (replace HU := Lib.hid (Blk.step hb2 (Blk.step hka HU.out)))); (try (replace HV := Lib.hid (Blk.step hb2 (Blk.step hka HV.out)))); (try (replace HI := Lib.hid (Ints.step hb2 (Ints.step hka HI.out)))); (try (replace HA := Lib.hid (Byts.step hb2 (Byts.step hka HA.out)))); replace HB := Lib.hid (Bel.step hb2 (Bel.step hka HB.out)); have hsz2 := hb2.size; have hsy2 := hka.size; (try simp only [World.size_alloc, World.size_drew, World.heap_drewN, World.size_setCell] at hsz2 hsy2); clear hka hb2
  have hces := fun h => cs_es (C := C) (ud := ud) (ut := ut) (vd := vd) (vt := vt) (e := x) h
  obtain ⟨a0, ha0⟩ : ∃ k, k = cs0 C ud ut vd vt x := ⟨_, rfl⟩
  obtain ⟨a1, ha1⟩ : ∃ k, k = cs1 C ud ut vd vt x := ⟨_, rfl⟩
  obtain ⟨a2, ha2⟩ : ∃ k, k = cs2 C ud ut vd vt x := ⟨_, rfl⟩
  obtain ⟨a3, ha3⟩ : ∃ k, k = cs3 C ud ut vd vt x := ⟨_, rfl⟩
  obtain ⟨ka, hka⟩ : ∃ k, k = csC C ud ut vd vt x := ⟨_, rfl⟩
  rw [← ha0, ← ha1, ← ha2, ← ha3, ← hka] at hces ⊢
  have HAV := Lib.hid (And.intro ha0 (And.intro ha1 (And.intro ha2 (And.intro ha3 hka))))
  clear ha0 ha1 ha2 ha3 hka
  have HP := Lib.hid (by have h := Blk.new w2 25 #[.int .i64 a0, .int .i64 a1]; (try simp only [World.size_alloc] at h); exact h)
  replace HC := Lib.hid (Blk.alloc (.cells #[.int .i64 a0, .int .i64 a1] 25) HC.out)
  replace HU := Lib.hid (Blk.alloc (.cells #[.int .i64 a0, .int .i64 a1] 25) HU.out)
  replace HV := Lib.hid (Blk.alloc (.cells #[.int .i64 a0, .int .i64 a1] 25) HV.out)
  replace HI := Lib.hid (Ints.alloc (.cells #[.int .i64 a0, .int .i64 a1] 25) HI.out)
  replace HA := Lib.hid (Byts.alloc (.cells #[.int .i64 a0, .int .i64 a1] 25) HA.out)
  replace HB := Lib.hid (Bel.alloc HB.out (.cells #[.int .i64 a0, .int .i64 a1] 25))
  have HQ := Lib.hid (by have h := Blk.new (w2.alloc (.cells #[.int .i64 a0, .int .i64 a1] 25)) 25 #[.int .i64 a2, .int .i64 a3]; (try simp only [World.size_alloc] at h); exact h)
  replace HC := Lib.hid (Blk.alloc (.cells #[.int .i64 a2, .int .i64 a3] 25) HC.out)
  replace HU := Lib.hid (Blk.alloc (.cells #[.int .i64 a2, .int .i64 a3] 25) HU.out)
  replace HV := Lib.hid (Blk.alloc (.cells #[.int .i64 a2, .int .i64 a3] 25) HV.out)
  replace HP := Lib.hid (Blk.alloc (.cells #[.int .i64 a2, .int .i64 a3] 25) HP.out)
  replace HI := Lib.hid (Ints.alloc (.cells #[.int .i64 a2, .int .i64 a3] 25) HI.out)
  replace HA := Lib.hid (Byts.alloc (.cells #[.int .i64 a2, .int .i64 a3] 25) HA.out)
  replace HB := Lib.hid (Bel.alloc HB.out (.cells #[.int .i64 a2, .int .i64 a3] 25))
  go_wp2_with (first | (refine wpList_load_blkG 30 _ _ (Blk.step (Bel.ka0 HB.out (by repeat (with_reducible first | exact Below.refl _ _ | refine Bel.alloc ?_ _ | refine Below.drew ?_ | refine Bel.drewN ?_ _))) HC.out) Try.underlying30 (by kernel_rfl) rfl rfl (by rfl) ?_) | (refine wpList_load_blkG 25 _ _ (Blk.step (Bel.ka0 HB.out (by repeat (with_reducible first | exact Below.refl _ _ | refine Bel.alloc ?_ _ | refine Below.drew ?_ | refine Bel.drewN ?_ _))) HU.out) Try.underlying25 (by kernel_rfl) rfl rfl (by rfl) ?_) | (refine wpList_load_blkG 25 _ _ (Blk.step (Bel.ka0 HB.out (by repeat (with_reducible first | exact Below.refl _ _ | refine Bel.alloc ?_ _ | refine Below.drew ?_ | refine Bel.drewN ?_ _))) HV.out) Try.underlying25 (by kernel_rfl) rfl rfl (by rfl) ?_))
  go_at_call 33; refine (ChartSpan_S C (some ⟨g, 0, none⟩) q ud ut vd vt x hn hm _ (by repeat (with_reducible first | exact HI.out | assumption | refine Ints.drew ?_ | refine Ints.drewN _ ?_ | refine Ints.alloc _ ?_ | refine Ints.step (by assumption) ?_))).mono ?_; rintro e w3 ⟨rfl, hb3⟩; have hka := Bel.ka HB.out hb3 (by repeat (with_reducible first | exact Below.refl _ _ | refine Bel.alloc ?_ _ | refine Below.drew ?_ | refine Bel.drewN ?_ _)); (try (replace HC := Lib.hid (Blk.step hb3 (Blk.step hka HC.out)))); (try (replace HU := Lib.hid (Blk.step hb3 (Blk.step hka HU.out)))); (try (replace HV := Lib.hid (Blk.step hb3 (Blk.step hka HV.out)))); (try (replace HP := Lib.hid (Blk.step hb3 (Blk.step hka HP.out)))); (try (replace HQ := Lib.hid (Blk.step hb3 (Blk.step hka HQ.out)))); (try (replace HI := Lib.hid (Ints.step hb3 (Ints.step hka HI.out)))); (try (replace HA := Lib.hid (Byts.step hb3 (Byts.step hka HA.out)))); replace HB := Lib.hid (Bel.step hb3 (Bel.step hka HB.out)); have hsz3 := hb3.size; have hsy3 := hka.size; (try simp only [World.size_alloc, World.size_drew, World.heap_drewN, World.size_setCell] at hsz3 hsy3); clear hka hb3
  rw [← HAV.out.1, ← HAV.out.2.1, ← HAV.out.2.2.1, ← HAV.out.2.2.2.1, ← HAV.out.2.2.2.2]
  clear HAV
  have HP2 := Lib.hid (by have h := Blk.new w3 25 #[.int .i64 a0, .int .i64 a1]; (try simp only [World.size_alloc] at h); exact h)
  replace HC := Lib.hid (Blk.alloc (.cells #[.int .i64 a0, .int .i64 a1] 25) HC.out)
  replace HU := Lib.hid (Blk.alloc (.cells #[.int .i64 a0, .int .i64 a1] 25) HU.out)
  replace HV := Lib.hid (Blk.alloc (.cells #[.int .i64 a0, .int .i64 a1] 25) HV.out)
  replace HP := Lib.hid (Blk.alloc (.cells #[.int .i64 a0, .int .i64 a1] 25) HP.out)
  replace HQ := Lib.hid (Blk.alloc (.cells #[.int .i64 a0, .int .i64 a1] 25) HQ.out)
  replace HI := Lib.hid (Ints.alloc (.cells #[.int .i64 a0, .int .i64 a1] 25) HI.out)
  replace HA := Lib.hid (Byts.alloc (.cells #[.int .i64 a0, .int .i64 a1] 25) HA.out)
  replace HB := Lib.hid (Bel.alloc HB.out (.cells #[.int .i64 a0, .int .i64 a1] 25))
  have HQ2 := Lib.hid (by have h := Blk.new (w3.alloc (.cells #[.int .i64 a0, .int .i64 a1] 25)) 25 #[.int .i64 a2, .int .i64 a3]; (try simp only [World.size_alloc] at h); exact h)
  replace HC := Lib.hid (Blk.alloc (.cells #[.int .i64 a2, .int .i64 a3] 25) HC.out)
  replace HU := Lib.hid (Blk.alloc (.cells #[.int .i64 a2, .int .i64 a3] 25) HU.out)
  replace HV := Lib.hid (Blk.alloc (.cells #[.int .i64 a2, .int .i64 a3] 25) HV.out)
  replace HP := Lib.hid (Blk.alloc (.cells #[.int .i64 a2, .int .i64 a3] 25) HP.out)
  replace HQ := Lib.hid (Blk.alloc (.cells #[.int .i64 a2, .int .i64 a3] 25) HQ.out)
  replace HP2 := Lib.hid (Blk.alloc (.cells #[.int .i64 a2, .int .i64 a3] 25) HP2.out)
  replace HI := Lib.hid (Ints.alloc (.cells #[.int .i64 a2, .int .i64 a3] 25) HI.out)
  replace HA := Lib.hid (Byts.alloc (.cells #[.int .i64 a2, .int .i64 a3] 25) HA.out)
  replace HB := Lib.hid (Bel.alloc HB.out (.cells #[.int .i64 a2, .int .i64 a3] 25))
  go_wp2_with (first | (refine wpList_load_blkG 30 _ _ (Blk.step (Bel.ka0 HB.out (by repeat (with_reducible first | exact Below.refl _ _ | refine Bel.alloc ?_ _ | refine Below.drew ?_ | refine Bel.drewN ?_ _))) HC.out) Try.underlying30 (by kernel_rfl) rfl rfl (by rfl) ?_) | (refine wpList_load_blkG 25 _ _ (Blk.step (Bel.ka0 HB.out (by repeat (with_reducible first | exact Below.refl _ _ | refine Bel.alloc ?_ _ | refine Below.drew ?_ | refine Bel.drewN ?_ _))) HU.out) Try.underlying25 (by kernel_rfl) rfl rfl (by rfl) ?_) | (refine wpList_load_blkG 25 _ _ (Blk.step (Bel.ka0 HB.out (by repeat (with_reducible first | exact Below.refl _ _ | refine Bel.alloc ?_ _ | refine Below.drew ?_ | refine Bel.drewN ?_ _))) HV.out) Try.underlying25 (by kernel_rfl) rfl rfl (by rfl) ?_))
  go_at_call 34; refine (ExactSpan_I C (some ⟨g, 0, none⟩) q ud ut vd vt hn hm _ (by repeat (with_reducible first | exact HI.out | assumption | refine Ints.drew ?_ | refine Ints.drewN _ ?_ | refine Ints.alloc _ ?_ | refine Ints.step (by assumption) ?_))).mono ?_; rintro e w4 ⟨rfl, hb4⟩; have hka := Bel.ka HB.out hb4 (by repeat (with_reducible first | exact Below.refl _ _ | refine Bel.alloc ?_ _ | refine Below.drew ?_ | refine Bel.drewN ?_ _)); (try (replace HC := Lib.hid (Blk.step hb4 (Blk.step hka HC.out)))); (try (replace HU := Lib.hid (Blk.step hb4 (Blk.step hka HU.out)))); (try (replace HV := Lib.hid (Blk.step hb4 (Blk.step hka HV.out)))); (try (replace HP := Lib.hid (Blk.step hb4 (Blk.step hka HP.out)))); (try (replace HQ := Lib.hid (Blk.step hb4 (Blk.step hka HQ.out)))); (try (replace HP2 := Lib.hid (Blk.step hb4 (Blk.step hka HP2.out)))); (try (replace HQ2 := Lib.hid (Blk.step hb4 (Blk.step hka HQ2.out)))); (try (replace HI := Lib.hid (Ints.step hb4 (Ints.step hka HI.out)))); (try (replace HA := Lib.hid (Byts.step hb4 (Byts.step hka HA.out)))); replace HB := Lib.hid (Bel.step hb4 (Bel.step hka HB.out)); have hsz4 := hb4.size; have hsy4 := hka.size; (try simp only [World.size_alloc, World.size_drew, World.heap_drewN, World.size_setCell] at hsz4 hsy4); clear hka hb4
  obtain ⟨e0, he0⟩ : ∃ k, k = es0 C ud ut vd vt := ⟨_, rfl⟩
  obtain ⟨e1, he1⟩ : ∃ k, k = es1 C ud ut vd vt := ⟨_, rfl⟩
  obtain ⟨e2, he2⟩ : ∃ k, k = es2 C ud ut vd vt := ⟨_, rfl⟩
  obtain ⟨e3, he3⟩ : ∃ k, k = es3 C ud ut vd vt := ⟨_, rfl⟩
  obtain ⟨ke, hke⟩ : ∃ k, k = esC C ud ut vd vt := ⟨_, rfl⟩
  rw [← he0, ← he1, ← he2, ← he3, ← hke] at hces ⊢
  have HEV := Lib.hid (And.intro he0 (And.intro he1 (And.intro he2 (And.intro he3 hke))))
  have HCES := Lib.hid hces
  clear he0 he1 he2 he3 hke hces
  have HE := Lib.hid (by have h := Blk.new w4 25 #[.int .i64 e0, .int .i64 e1]; (try simp only [World.size_alloc] at h); exact h)
  replace HC := Lib.hid (Blk.alloc (.cells #[.int .i64 e0, .int .i64 e1] 25) HC.out)
  replace HU := Lib.hid (Blk.alloc (.cells #[.int .i64 e0, .int .i64 e1] 25) HU.out)
  replace HV := Lib.hid (Blk.alloc (.cells #[.int .i64 e0, .int .i64 e1] 25) HV.out)
  replace HP := Lib.hid (Blk.alloc (.cells #[.int .i64 e0, .int .i64 e1] 25) HP.out)
  replace HQ := Lib.hid (Blk.alloc (.cells #[.int .i64 e0, .int .i64 e1] 25) HQ.out)
  replace HP2 := Lib.hid (Blk.alloc (.cells #[.int .i64 e0, .int .i64 e1] 25) HP2.out)
  replace HQ2 := Lib.hid (Blk.alloc (.cells #[.int .i64 e0, .int .i64 e1] 25) HQ2.out)
  replace HI := Lib.hid (Ints.alloc (.cells #[.int .i64 e0, .int .i64 e1] 25) HI.out)
  replace HA := Lib.hid (Byts.alloc (.cells #[.int .i64 e0, .int .i64 e1] 25) HA.out)
  replace HB := Lib.hid (Bel.alloc HB.out (.cells #[.int .i64 e0, .int .i64 e1] 25))
  have HF := Lib.hid (by have h := Blk.new (w4.alloc (.cells #[.int .i64 e0, .int .i64 e1] 25)) 25 #[.int .i64 e2, .int .i64 e3]; (try simp only [World.size_alloc] at h); exact h)
  replace HC := Lib.hid (Blk.alloc (.cells #[.int .i64 e2, .int .i64 e3] 25) HC.out)
  replace HU := Lib.hid (Blk.alloc (.cells #[.int .i64 e2, .int .i64 e3] 25) HU.out)
  replace HV := Lib.hid (Blk.alloc (.cells #[.int .i64 e2, .int .i64 e3] 25) HV.out)
  replace HP := Lib.hid (Blk.alloc (.cells #[.int .i64 e2, .int .i64 e3] 25) HP.out)
  replace HQ := Lib.hid (Blk.alloc (.cells #[.int .i64 e2, .int .i64 e3] 25) HQ.out)
  replace HP2 := Lib.hid (Blk.alloc (.cells #[.int .i64 e2, .int .i64 e3] 25) HP2.out)
  replace HQ2 := Lib.hid (Blk.alloc (.cells #[.int .i64 e2, .int .i64 e3] 25) HQ2.out)
  replace HE := Lib.hid (Blk.alloc (.cells #[.int .i64 e2, .int .i64 e3] 25) HE.out)
  replace HI := Lib.hid (Ints.alloc (.cells #[.int .i64 e2, .int .i64 e3] 25) HI.out)
  replace HA := Lib.hid (Byts.alloc (.cells #[.int .i64 e2, .int .i64 e3] 25) HA.out)
  replace HB := Lib.hid (Bel.alloc HB.out (.cells #[.int .i64 e2, .int .i64 e3] 25))
  go_wp2_with (first | (refine wpList_load_blkG 30 _ _ (Blk.step (Bel.ka0 HB.out (by repeat (with_reducible first | exact Below.refl _ _ | refine Bel.alloc ?_ _ | refine Below.drew ?_ | refine Bel.drewN ?_ _))) HC.out) Try.underlying30 (by kernel_rfl) rfl rfl (by rfl) ?_) | (refine wpList_load_blkG 25 _ _ (Blk.step (Bel.ka0 HB.out (by repeat (with_reducible first | exact Below.refl _ _ | refine Bel.alloc ?_ _ | refine Below.drew ?_ | refine Bel.drewN ?_ _))) HU.out) Try.underlying25 (by kernel_rfl) rfl rfl (by rfl) ?_) | (refine wpList_load_blkG 25 _ _ (Blk.step (Bel.ka0 HB.out (by repeat (with_reducible first | exact Below.refl _ _ | refine Bel.alloc ?_ _ | refine Below.drew ?_ | refine Bel.drewN ?_ _))) HV.out) Try.underlying25 (by kernel_rfl) rfl rfl (by rfl) ?_))
  go_at_call 35; refine (ExactSpan_S C (some ⟨g, 0, none⟩) q ud ut vd vt hn hm _ (by repeat (with_reducible first | exact HI.out | assumption | refine Ints.drew ?_ | refine Ints.drewN _ ?_ | refine Ints.alloc _ ?_ | refine Ints.step (by assumption) ?_))).mono ?_; rintro e w5 ⟨rfl, hb5⟩; have hka := Bel.ka HB.out hb5 (by repeat (with_reducible first | exact Below.refl _ _ | refine Bel.alloc ?_ _ | refine Below.drew ?_ | refine Bel.drewN ?_ _)); (try (replace HP := Lib.hid (Blk.step hb5 (Blk.step hka HP.out)))); (try (replace HQ := Lib.hid (Blk.step hb5 (Blk.step hka HQ.out)))); (try (replace HP2 := Lib.hid (Blk.step hb5 (Blk.step hka HP2.out)))); (try (replace HQ2 := Lib.hid (Blk.step hb5 (Blk.step hka HQ2.out)))); (try (replace HE := Lib.hid (Blk.step hb5 (Blk.step hka HE.out)))); (try (replace HF := Lib.hid (Blk.step hb5 (Blk.step hka HF.out)))); (try (replace HA := Lib.hid (Byts.step hb5 (Byts.step hka HA.out)))); replace HB := Lib.hid (Bel.step hb5 (Bel.step hka HB.out)); have hsz5 := hb5.size; have hsy5 := hka.size; (try simp only [World.size_alloc, World.size_drew, World.heap_drewN, World.size_setCell] at hsz5 hsy5); clear hka hb5
  rw [← HEV.out.1, ← HEV.out.2.1, ← HEV.out.2.2.1, ← HEV.out.2.2.2.1, ← HEV.out.2.2.2.2]
  clear HEV HC HU HV HI
  have HE2 := Lib.hid (by have h := Blk.new w5 25 #[.int .i64 e0, .int .i64 e1]; (try simp only [World.size_alloc] at h); exact h)
  replace HP := Lib.hid (Blk.alloc (.cells #[.int .i64 e0, .int .i64 e1] 25) HP.out)
  replace HQ := Lib.hid (Blk.alloc (.cells #[.int .i64 e0, .int .i64 e1] 25) HQ.out)
  replace HP2 := Lib.hid (Blk.alloc (.cells #[.int .i64 e0, .int .i64 e1] 25) HP2.out)
  replace HQ2 := Lib.hid (Blk.alloc (.cells #[.int .i64 e0, .int .i64 e1] 25) HQ2.out)
  replace HE := Lib.hid (Blk.alloc (.cells #[.int .i64 e0, .int .i64 e1] 25) HE.out)
  replace HF := Lib.hid (Blk.alloc (.cells #[.int .i64 e0, .int .i64 e1] 25) HF.out)
  replace HA := Lib.hid (Byts.alloc (.cells #[.int .i64 e0, .int .i64 e1] 25) HA.out)
  replace HB := Lib.hid (Bel.alloc HB.out (.cells #[.int .i64 e0, .int .i64 e1] 25))
  have HF2 := Lib.hid (by have h := Blk.new (w5.alloc (.cells #[.int .i64 e0, .int .i64 e1] 25)) 25 #[.int .i64 e2, .int .i64 e3]; (try simp only [World.size_alloc] at h); exact h)
  replace HP := Lib.hid (Blk.alloc (.cells #[.int .i64 e2, .int .i64 e3] 25) HP.out)
  replace HQ := Lib.hid (Blk.alloc (.cells #[.int .i64 e2, .int .i64 e3] 25) HQ.out)
  replace HP2 := Lib.hid (Blk.alloc (.cells #[.int .i64 e2, .int .i64 e3] 25) HP2.out)
  replace HQ2 := Lib.hid (Blk.alloc (.cells #[.int .i64 e2, .int .i64 e3] 25) HQ2.out)
  replace HE := Lib.hid (Blk.alloc (.cells #[.int .i64 e2, .int .i64 e3] 25) HE.out)
  replace HF := Lib.hid (Blk.alloc (.cells #[.int .i64 e2, .int .i64 e3] 25) HF.out)
  replace HE2 := Lib.hid (Blk.alloc (.cells #[.int .i64 e2, .int .i64 e3] 25) HE2.out)
  replace HA := Lib.hid (Byts.alloc (.cells #[.int .i64 e2, .int .i64 e3] 25) HA.out)
  replace HB := Lib.hid (Bel.alloc HB.out (.cells #[.int .i64 e2, .int .i64 e3] 25))
  go_wp2_with fail
  go_at_call 36; refine (DrawIsOnLine_c A c zs hz _ HA.out).mono ?_; rintro e w6 ⟨D, gd, qd, pd, pt, rd, rt, sd, st, y, rfl, hn0, hm0, hO, hb6⟩; have hka := Bel.ka HB.out hb6 (by repeat (with_reducible first | exact Below.refl _ _ | refine Bel.alloc ?_ _ | refine Below.drew ?_ | refine Bel.drewN ?_ _)); (try (replace HP := Lib.hid (Blk.step hb6 (Blk.step hka HP.out)))); (try (replace HQ := Lib.hid (Blk.step hb6 (Blk.step hka HQ.out)))); (try (replace HP2 := Lib.hid (Blk.step hb6 (Blk.step hka HP2.out)))); (try (replace HQ2 := Lib.hid (Blk.step hb6 (Blk.step hka HQ2.out)))); (try (replace HE := Lib.hid (Blk.step hb6 (Blk.step hka HE.out)))); (try (replace HF := Lib.hid (Blk.step hb6 (Blk.step hka HF.out)))); (try (replace HE2 := Lib.hid (Blk.step hb6 (Blk.step hka HE2.out)))); (try (replace HF2 := Lib.hid (Blk.step hb6 (Blk.step hka HF2.out)))); replace HB := Lib.hid (Bel.step hb6 (Bel.step hka HB.out)); have hsz6 := hb6.size; have hsy6 := hka.size; (try simp only [World.size_alloc, World.size_drew, World.heap_drewN, World.size_setCell] at hsz6 hsy6); clear hka hb6
  have HJ := Lib.hid hO.ints
  have hdn : D.zs.length ≤ 1048576 := by omega
  have hdm : D.nm.size ≤ 1048576 := by omega
  clear hO hn0 hm0 HA
  have HD := Lib.hid (by have h := Blk.new w6 30 #[.int .i64 D.dg, .int .i64 D.tn, .string D.nm, .slice (some ⟨gd, 0, none⟩) D.zs.length qd, .int .i64 D.wd, .int .i64 D.lf, .int .i64 D.rt]; (try simp only [World.size_alloc] at h); exact h)
  replace HP := Lib.hid (Blk.alloc (.cells #[.int .i64 D.dg, .int .i64 D.tn, .string D.nm, .slice (some ⟨gd, 0, none⟩) D.zs.length qd, .int .i64 D.wd, .int .i64 D.lf, .int .i64 D.rt] 30) HP.out)
  replace HQ := Lib.hid (Blk.alloc (.cells #[.int .i64 D.dg, .int .i64 D.tn, .string D.nm, .slice (some ⟨gd, 0, none⟩) D.zs.length qd, .int .i64 D.wd, .int .i64 D.lf, .int .i64 D.rt] 30) HQ.out)
  replace HP2 := Lib.hid (Blk.alloc (.cells #[.int .i64 D.dg, .int .i64 D.tn, .string D.nm, .slice (some ⟨gd, 0, none⟩) D.zs.length qd, .int .i64 D.wd, .int .i64 D.lf, .int .i64 D.rt] 30) HP2.out)
  replace HQ2 := Lib.hid (Blk.alloc (.cells #[.int .i64 D.dg, .int .i64 D.tn, .string D.nm, .slice (some ⟨gd, 0, none⟩) D.zs.length qd, .int .i64 D.wd, .int .i64 D.lf, .int .i64 D.rt] 30) HQ2.out)
  replace HE := Lib.hid (Blk.alloc (.cells #[.int .i64 D.dg, .int .i64 D.tn, .string D.nm, .slice (some ⟨gd, 0, none⟩) D.zs.length qd, .int .i64 D.wd, .int .i64 D.lf, .int .i64 D.rt] 30) HE.out)
  replace HF := Lib.hid (Blk.alloc (.cells #[.int .i64 D.dg, .int .i64 D.tn, .string D.nm, .slice (some ⟨gd, 0, none⟩) D.zs.length qd, .int .i64 D.wd, .int .i64 D.lf, .int .i64 D.rt] 30) HF.out)
  replace HE2 := Lib.hid (Blk.alloc (.cells #[.int .i64 D.dg, .int .i64 D.tn, .string D.nm, .slice (some ⟨gd, 0, none⟩) D.zs.length qd, .int .i64 D.wd, .int .i64 D.lf, .int .i64 D.rt] 30) HE2.out)
  replace HF2 := Lib.hid (Blk.alloc (.cells #[.int .i64 D.dg, .int .i64 D.tn, .string D.nm, .slice (some ⟨gd, 0, none⟩) D.zs.length qd, .int .i64 D.wd, .int .i64 D.lf, .int .i64 D.rt] 30) HF2.out)
  replace HJ := Lib.hid (Ints.alloc (.cells #[.int .i64 D.dg, .int .i64 D.tn, .string D.nm, .slice (some ⟨gd, 0, none⟩) D.zs.length qd, .int .i64 D.wd, .int .i64 D.lf, .int .i64 D.rt] 30) HJ.out)
  replace HB := Lib.hid (Bel.alloc HB.out (.cells #[.int .i64 D.dg, .int .i64 D.tn, .string D.nm, .slice (some ⟨gd, 0, none⟩) D.zs.length qd, .int .i64 D.wd, .int .i64 D.lf, .int .i64 D.rt] 30))
  have HDU := Lib.hid (by have h := Blk.new (w6.alloc (.cells #[.int .i64 D.dg, .int .i64 D.tn, .string D.nm, .slice (some ⟨gd, 0, none⟩) D.zs.length qd, .int .i64 D.wd, .int .i64 D.lf, .int .i64 D.rt] 30)) 25 #[.int .i64 pd, .int .i64 pt]; (try simp only [World.size_alloc] at h); exact h)
  replace HD := Lib.hid (Blk.alloc (.cells #[.int .i64 pd, .int .i64 pt] 25) HD.out)
  replace HP := Lib.hid (Blk.alloc (.cells #[.int .i64 pd, .int .i64 pt] 25) HP.out)
  replace HQ := Lib.hid (Blk.alloc (.cells #[.int .i64 pd, .int .i64 pt] 25) HQ.out)
  replace HP2 := Lib.hid (Blk.alloc (.cells #[.int .i64 pd, .int .i64 pt] 25) HP2.out)
  replace HQ2 := Lib.hid (Blk.alloc (.cells #[.int .i64 pd, .int .i64 pt] 25) HQ2.out)
  replace HE := Lib.hid (Blk.alloc (.cells #[.int .i64 pd, .int .i64 pt] 25) HE.out)
  replace HF := Lib.hid (Blk.alloc (.cells #[.int .i64 pd, .int .i64 pt] 25) HF.out)
  replace HE2 := Lib.hid (Blk.alloc (.cells #[.int .i64 pd, .int .i64 pt] 25) HE2.out)
  replace HF2 := Lib.hid (Blk.alloc (.cells #[.int .i64 pd, .int .i64 pt] 25) HF2.out)
  replace HJ := Lib.hid (Ints.alloc (.cells #[.int .i64 pd, .int .i64 pt] 25) HJ.out)
  replace HB := Lib.hid (Bel.alloc HB.out (.cells #[.int .i64 pd, .int .i64 pt] 25))
  have HDV := Lib.hid (by have h := Blk.new ((w6.alloc (.cells #[.int .i64 D.dg, .int .i64 D.tn, .string D.nm, .slice (some ⟨gd, 0, none⟩) D.zs.length qd, .int .i64 D.wd, .int .i64 D.lf, .int .i64 D.rt] 30)).alloc (.cells #[.int .i64 pd, .int .i64 pt] 25)) 25 #[.int .i64 rd, .int .i64 rt]; (try simp only [World.size_alloc] at h); exact h)
  replace HD := Lib.hid (Blk.alloc (.cells #[.int .i64 rd, .int .i64 rt] 25) HD.out)
  replace HDU := Lib.hid (Blk.alloc (.cells #[.int .i64 rd, .int .i64 rt] 25) HDU.out)
  replace HP := Lib.hid (Blk.alloc (.cells #[.int .i64 rd, .int .i64 rt] 25) HP.out)
  replace HQ := Lib.hid (Blk.alloc (.cells #[.int .i64 rd, .int .i64 rt] 25) HQ.out)
  replace HP2 := Lib.hid (Blk.alloc (.cells #[.int .i64 rd, .int .i64 rt] 25) HP2.out)
  replace HQ2 := Lib.hid (Blk.alloc (.cells #[.int .i64 rd, .int .i64 rt] 25) HQ2.out)
  replace HE := Lib.hid (Blk.alloc (.cells #[.int .i64 rd, .int .i64 rt] 25) HE.out)
  replace HF := Lib.hid (Blk.alloc (.cells #[.int .i64 rd, .int .i64 rt] 25) HF.out)
  replace HE2 := Lib.hid (Blk.alloc (.cells #[.int .i64 rd, .int .i64 rt] 25) HE2.out)
  replace HF2 := Lib.hid (Blk.alloc (.cells #[.int .i64 rd, .int .i64 rt] 25) HF2.out)
  replace HJ := Lib.hid (Ints.alloc (.cells #[.int .i64 rd, .int .i64 rt] 25) HJ.out)
  replace HB := Lib.hid (Bel.alloc HB.out (.cells #[.int .i64 rd, .int .i64 rt] 25))
  have HDW := Lib.hid (by have h := Blk.new (((w6.alloc (.cells #[.int .i64 D.dg, .int .i64 D.tn, .string D.nm, .slice (some ⟨gd, 0, none⟩) D.zs.length qd, .int .i64 D.wd, .int .i64 D.lf, .int .i64 D.rt] 30)).alloc (.cells #[.int .i64 pd, .int .i64 pt] 25)).alloc (.cells #[.int .i64 rd, .int .i64 rt] 25)) 25 #[.int .i64 sd, .int .i64 st]; (try simp only [World.size_alloc] at h); exact h)
  replace HD := Lib.hid (Blk.alloc (.cells #[.int .i64 sd, .int .i64 st] 25) HD.out)
  replace HDU := Lib.hid (Blk.alloc (.cells #[.int .i64 sd, .int .i64 st] 25) HDU.out)
  replace HDV := Lib.hid (Blk.alloc (.cells #[.int .i64 sd, .int .i64 st] 25) HDV.out)
  replace HP := Lib.hid (Blk.alloc (.cells #[.int .i64 sd, .int .i64 st] 25) HP.out)
  replace HQ := Lib.hid (Blk.alloc (.cells #[.int .i64 sd, .int .i64 st] 25) HQ.out)
  replace HP2 := Lib.hid (Blk.alloc (.cells #[.int .i64 sd, .int .i64 st] 25) HP2.out)
  replace HQ2 := Lib.hid (Blk.alloc (.cells #[.int .i64 sd, .int .i64 st] 25) HQ2.out)
  replace HE := Lib.hid (Blk.alloc (.cells #[.int .i64 sd, .int .i64 st] 25) HE.out)
  replace HF := Lib.hid (Blk.alloc (.cells #[.int .i64 sd, .int .i64 st] 25) HF.out)
  replace HE2 := Lib.hid (Blk.alloc (.cells #[.int .i64 sd, .int .i64 st] 25) HE2.out)
  replace HF2 := Lib.hid (Blk.alloc (.cells #[.int .i64 sd, .int .i64 st] 25) HF2.out)
  replace HJ := Lib.hid (Ints.alloc (.cells #[.int .i64 sd, .int .i64 st] 25) HJ.out)
  replace HB := Lib.hid (Bel.alloc HB.out (.cells #[.int .i64 sd, .int .i64 st] 25))
  go_wp2_with (first | (refine wpList_load_blkG 30 _ _ (Blk.step (Bel.ka0 HB.out (by repeat (with_reducible first | exact Below.refl _ _ | refine Bel.alloc ?_ _ | refine Below.drew ?_ | refine Bel.drewN ?_ _))) HD.out) Try.underlying30 (by kernel_rfl) rfl rfl (by rfl) ?_) | (refine wpList_load_blkG 25 _ _ (Blk.step (Bel.ka0 HB.out (by repeat (with_reducible first | exact Below.refl _ _ | refine Bel.alloc ?_ _ | refine Below.drew ?_ | refine Bel.drewN ?_ _))) HDU.out) Try.underlying25 (by kernel_rfl) rfl rfl (by rfl) ?_) | (refine wpList_load_blkG 25 _ _ (Blk.step (Bel.ka0 HB.out (by repeat (with_reducible first | exact Below.refl _ _ | refine Bel.alloc ?_ _ | refine Below.drew ?_ | refine Bel.drewN ?_ _))) HDV.out) Try.underlying25 (by kernel_rfl) rfl rfl (by rfl) ?_) | (refine wpList_load_blkG 25 _ _ (Blk.step (Bel.ka0 HB.out (by repeat (with_reducible first | exact Below.refl _ _ | refine Bel.alloc ?_ _ | refine Below.drew ?_ | refine Bel.drewN ?_ _))) HDW.out) Try.underlying25 (by kernel_rfl) rfl rfl (by rfl) ?_))
  go_at_call 37; refine (IsOnLine_I D (some ⟨gd, 0, none⟩) qd pd pt rd rt sd st y hdn hdm _ (by repeat (with_reducible first | exact HJ.out | assumption | refine Ints.drew ?_ | refine Ints.drewN _ ?_ | refine Ints.alloc _ ?_ | refine Ints.step (by assumption) ?_))).mono ?_; rintro e w7 ⟨rfl, hb7⟩; have hka := Bel.ka HB.out hb7 (by repeat (with_reducible first | exact Below.refl _ _ | refine Bel.alloc ?_ _ | refine Below.drew ?_ | refine Bel.drewN ?_ _)); (try (replace HD := Lib.hid (Blk.step hb7 (Blk.step hka HD.out)))); (try (replace HDU := Lib.hid (Blk.step hb7 (Blk.step hka HDU.out)))); (try (replace HDV := Lib.hid (Blk.step hb7 (Blk.step hka HDV.out)))); (try (replace HDW := Lib.hid (Blk.step hb7 (Blk.step hka HDW.out)))); (try (replace HP := Lib.hid (Blk.step hb7 (Blk.step hka HP.out)))); (try (replace HQ := Lib.hid (Blk.step hb7 (Blk.step hka HQ.out)))); (try (replace HP2 := Lib.hid (Blk.step hb7 (Blk.step hka HP2.out)))); (try (replace HQ2 := Lib.hid (Blk.step hb7 (Blk.step hka HQ2.out)))); (try (replace HE := Lib.hid (Blk.step hb7 (Blk.step hka HE.out)))); (try (replace HF := Lib.hid (Blk.step hb7 (Blk.step hka HF.out)))); (try (replace HE2 := Lib.hid (Blk.step hb7 (Blk.step hka HE2.out)))); (try (replace HF2 := Lib.hid (Blk.step hb7 (Blk.step hka HF2.out)))); (try (replace HJ := Lib.hid (Ints.step hb7 (Ints.step hka HJ.out)))); replace HB := Lib.hid (Bel.step hb7 (Bel.step hka HB.out)); have hsz7 := hb7.size; have hsy7 := hka.size; (try simp only [World.size_alloc, World.size_drew, World.heap_drewN, World.size_setCell] at hsz7 hsy7); clear hka hb7
  have hmore := fun h h2 => ol_more (C := D) (ud := pd) (ut := pt) (vd := rd) (vt := rt) (xd := sd) (xt := st) (e := y) h h2
  obtain ⟨ko, hko⟩ : ∃ k, k = olC D pd pt rd rt sd st y := ⟨_, rfl⟩
  obtain ⟨bo, hbo⟩ : ∃ k, k = olB D pd pt rd rt sd st y := ⟨_, rfl⟩
  rw [← hko, ← hbo] at hmore ⊢
  have HO := Lib.hid (And.intro hko hbo)
  have HMore := Lib.hid hmore
  clear hko hbo hmore
  go_wp2_with (first | (refine wpList_load_blkG 30 _ _ (Blk.step (Bel.ka0 HB.out (by repeat (with_reducible first | exact Below.refl _ _ | refine Bel.alloc ?_ _ | refine Below.drew ?_ | refine Bel.drewN ?_ _))) HD.out) Try.underlying30 (by kernel_rfl) rfl rfl (by rfl) ?_) | (refine wpList_load_blkG 25 _ _ (Blk.step (Bel.ka0 HB.out (by repeat (with_reducible first | exact Below.refl _ _ | refine Bel.alloc ?_ _ | refine Below.drew ?_ | refine Bel.drewN ?_ _))) HDU.out) Try.underlying25 (by kernel_rfl) rfl rfl (by rfl) ?_) | (refine wpList_load_blkG 25 _ _ (Blk.step (Bel.ka0 HB.out (by repeat (with_reducible first | exact Below.refl _ _ | refine Bel.alloc ?_ _ | refine Below.drew ?_ | refine Bel.drewN ?_ _))) HDV.out) Try.underlying25 (by kernel_rfl) rfl rfl (by rfl) ?_) | (refine wpList_load_blkG 25 _ _ (Blk.step (Bel.ka0 HB.out (by repeat (with_reducible first | exact Below.refl _ _ | refine Bel.alloc ?_ _ | refine Below.drew ?_ | refine Bel.drewN ?_ _))) HDW.out) Try.underlying25 (by kernel_rfl) rfl rfl (by rfl) ?_))
  go_at_call 38; refine (IsOnLine_S D (some ⟨gd, 0, none⟩) qd pd pt rd rt sd st y hdn hdm _ (by repeat (with_reducible first | exact HJ.out | assumption | refine Ints.drew ?_ | refine Ints.drewN _ ?_ | refine Ints.alloc _ ?_ | refine Ints.step (by assumption) ?_))).mono ?_; rintro e w8 ⟨rfl, hb8⟩; have hka := Bel.ka HB.out hb8 (by repeat (with_reducible first | exact Below.refl _ _ | refine Bel.alloc ?_ _ | refine Below.drew ?_ | refine Bel.drewN ?_ _)); (try (replace HD := Lib.hid (Blk.step hb8 (Blk.step hka HD.out)))); (try (replace HDU := Lib.hid (Blk.step hb8 (Blk.step hka HDU.out)))); (try (replace HDV := Lib.hid (Blk.step hb8 (Blk.step hka HDV.out)))); (try (replace HDW := Lib.hid (Blk.step hb8 (Blk.step hka HDW.out)))); (try (replace HP := Lib.hid (Blk.step hb8 (Blk.step hka HP.out)))); (try (replace HQ := Lib.hid (Blk.step hb8 (Blk.step hka HQ.out)))); (try (replace HP2 := Lib.hid (Blk.step hb8 (Blk.step hka HP2.out)))); (try (replace HQ2 := Lib.hid (Blk.step hb8 (Blk.step hka HQ2.out)))); (try (replace HE := Lib.hid (Blk.step hb8 (Blk.step hka HE.out)))); (try (replace HF := Lib.hid (Blk.step hb8 (Blk.step hka HF.out)))); (try (replace HE2 := Lib.hid (Blk.step hb8 (Blk.step hka HE2.out)))); (try (replace HF2 := Lib.hid (Blk.step hb8 (Blk.step hka HF2.out)))); (try (replace HJ := Lib.hid (Ints.step hb8 (Ints.step hka HJ.out)))); replace HB := Lib.hid (Bel.step hb8 (Bel.step hka HB.out)); have hsz8 := hb8.size; have hsy8 := hka.size; (try simp only [World.size_alloc, World.size_drew, World.heap_drewN, World.size_setCell] at hsz8 hsy8); clear hka hb8
  rw [← HO.out.1, ← HO.out.2]
  clear hsz1 hsy1 hsz2 hsy2 hsz3 hsy3 hsz4 hsy4 hsz5 hsy5 hsz6 hsy6 hsz7 hsy7 hsz8 hsy8
  have cHP0 : (w8).cell? ⟨w2.heap.size, 0, none⟩ = some (.int .i64 a0) := by rw [HP.out.cell]; rfl
  have cHP1 : (w8).cell? ⟨w2.heap.size, 1, none⟩ = some (.int .i64 a1) := by rw [HP.out.cell]; rfl
  have cHQ0 : (w8).cell? ⟨w2.heap.size + 1, 0, none⟩ = some (.int .i64 a2) := by rw [HQ.out.cell]; rfl
  have cHQ1 : (w8).cell? ⟨w2.heap.size + 1, 1, none⟩ = some (.int .i64 a3) := by rw [HQ.out.cell]; rfl
  have cHP20 : (w8).cell? ⟨w3.heap.size, 0, none⟩ = some (.int .i64 a0) := by rw [HP2.out.cell]; rfl
  have cHP21 : (w8).cell? ⟨w3.heap.size, 1, none⟩ = some (.int .i64 a1) := by rw [HP2.out.cell]; rfl
  have cHQ20 : (w8).cell? ⟨w3.heap.size + 1, 0, none⟩ = some (.int .i64 a2) := by rw [HQ2.out.cell]; rfl
  have cHQ21 : (w8).cell? ⟨w3.heap.size + 1, 1, none⟩ = some (.int .i64 a3) := by rw [HQ2.out.cell]; rfl
  have cHE0 : (w8).cell? ⟨w4.heap.size, 0, none⟩ = some (.int .i64 e0) := by rw [HE.out.cell]; rfl
  have cHE1 : (w8).cell? ⟨w4.heap.size, 1, none⟩ = some (.int .i64 e1) := by rw [HE.out.cell]; rfl
  have cHF0 : (w8).cell? ⟨w4.heap.size + 1, 0, none⟩ = some (.int .i64 e2) := by rw [HF.out.cell]; rfl
  have cHF1 : (w8).cell? ⟨w4.heap.size + 1, 1, none⟩ = some (.int .i64 e3) := by rw [HF.out.cell]; rfl
  have cHE20 : (w8).cell? ⟨w5.heap.size, 0, none⟩ = some (.int .i64 e0) := by rw [HE2.out.cell]; rfl
  have cHE21 : (w8).cell? ⟨w5.heap.size, 1, none⟩ = some (.int .i64 e1) := by rw [HE2.out.cell]; rfl
  have cHF20 : (w8).cell? ⟨w5.heap.size + 1, 0, none⟩ = some (.int .i64 e2) := by rw [HF2.out.cell]; rfl
  have cHF21 : (w8).cell? ⟨w5.heap.size + 1, 1, none⟩ = some (.int .i64 e3) := by rw [HF2.out.cell]; rfl
  go_upto_region 13 with (fail)
  clear cHP0 cHP1 cHQ0 cHQ1 cHP20 cHP21 cHQ20 cHQ21 cHE0 cHE1 cHF0 cHF1 cHE20 cHE21 cHF20 cHF21 HP2 HQ2 HE2 HF2
  by_cases hko0 : ko = 0
  rotate_left
  · have hkob : (ko == 0) = false := by simpa using hko0
    go_upto_region 17 with (fail)
    obtain ⟨W, rfl⟩ : ∃ U : World, U = w8 := ⟨_, rfl⟩
    by_cases hka0 : ka = 0
    rotate_left
    · have hkb : (ka == 0) = false := by simpa using hka0
      go_wp2
      all_goals (go_ret; exact ⟨rfl, HB.out⟩)
    obtain ⟨t1, t2, t3⟩ := HCES.out hka0
    have T2 := Lib.hid t2
    have T3 := Lib.hid t3
    subst hka0
    subst t1
    clear t2 t3 HMore HO
    have cHP0 : (W).cell? ⟨w2.heap.size, 0, none⟩ = some (.int .i64 a0) := by rw [HP.out.cell]; rfl
    have cHP1 : (W).cell? ⟨w2.heap.size, 1, none⟩ = some (.int .i64 a1) := by rw [HP.out.cell]; rfl
    have cHQ0 : (W).cell? ⟨w2.heap.size + 1, 0, none⟩ = some (.int .i64 a2) := by rw [HQ.out.cell]; rfl
    have cHQ1 : (W).cell? ⟨w2.heap.size + 1, 1, none⟩ = some (.int .i64 a3) := by rw [HQ.out.cell]; rfl
    have cHE0 : (W).cell? ⟨w4.heap.size, 0, none⟩ = some (.int .i64 e0) := by rw [HE.out.cell]; rfl
    have cHE1 : (W).cell? ⟨w4.heap.size, 1, none⟩ = some (.int .i64 e1) := by rw [HE.out.cell]; rfl
    go_wp2_with fail
    go_at_call 39; refine (between_yes T2.out _).mono ?_; rintro e w31 ⟨rfl, hb31⟩; have hka := Bel.ka HB.out hb31 (by repeat (with_reducible first | exact Below.refl _ _ | refine Bel.alloc ?_ _ | refine Below.drew ?_ | refine Bel.drewN ?_ _)); (try (replace HP := Lib.hid (Blk.step hb31 (Blk.step hka HP.out)))); (try (replace HQ := Lib.hid (Blk.step hb31 (Blk.step hka HQ.out)))); (try (replace HF := Lib.hid (Blk.step hb31 (Blk.step hka HF.out)))); replace HB := Lib.hid (Bel.step hb31 (Bel.step hka HB.out)); have hsz31 := hb31.size; have hsy31 := hka.size; (try simp only [World.size_alloc, World.size_drew, World.heap_drewN, World.size_setCell] at hsz31 hsy31); clear hka hb31
    clear cHP0 cHP1 cHQ0 cHQ1 cHE0 cHE1
    have cHP0 : (w31).cell? ⟨w2.heap.size, 0, none⟩ = some (.int .i64 a0) := by rw [HP.out.cell]; rfl
    have cHP1 : (w31).cell? ⟨w2.heap.size, 1, none⟩ = some (.int .i64 a1) := by rw [HP.out.cell]; rfl
    have cHQ0 : (w31).cell? ⟨w2.heap.size + 1, 0, none⟩ = some (.int .i64 a2) := by rw [HQ.out.cell]; rfl
    have cHQ1 : (w31).cell? ⟨w2.heap.size + 1, 1, none⟩ = some (.int .i64 a3) := by rw [HQ.out.cell]; rfl
    have cHF0 : (w31).cell? ⟨w4.heap.size + 1, 0, none⟩ = some (.int .i64 e2) := by rw [HF.out.cell]; rfl
    have cHF1 : (w31).cell? ⟨w4.heap.size + 1, 1, none⟩ = some (.int .i64 e3) := by rw [HF.out.cell]; rfl
    go_wp2_with fail
    go_at_call 39; refine (between_yes T3.out _).mono ?_; rintro e w32 ⟨rfl, hb32⟩; have hka := Bel.ka HB.out hb32 (by repeat (with_reducible first | exact Below.refl _ _ | refine Bel.alloc ?_ _ | refine Below.drew ?_ | refine Bel.drewN ?_ _)); replace HB := Lib.hid (Bel.step hb32 (Bel.step hka HB.out)); have hsz32 := hb32.size; have hsy32 := hka.size; (try simp only [World.size_alloc, World.size_drew, World.heap_drewN, World.size_setCell] at hsz32 hsy32); clear hka hb32
    go_wp2
    go_ret
    exact ⟨rfl, HB.out⟩
  by_cases hy : y < 200
  rotate_left
  · subst hko0
    go_upto_region 17 with (fail)
    obtain ⟨W, rfl⟩ : ∃ U : World, U = w8 := ⟨_, rfl⟩
    by_cases hka0 : ka = 0
    rotate_left
    · have hkb : (ka == 0) = false := by simpa using hka0
      go_wp2
      all_goals (go_ret; exact ⟨rfl, HB.out⟩)
    obtain ⟨t1, t2, t3⟩ := HCES.out hka0
    have T2 := Lib.hid t2
    have T3 := Lib.hid t3
    subst hka0
    subst t1
    clear t2 t3 HMore HO
    have cHP0 : (W).cell? ⟨w2.heap.size, 0, none⟩ = some (.int .i64 a0) := by rw [HP.out.cell]; rfl
    have cHP1 : (W).cell? ⟨w2.heap.size, 1, none⟩ = some (.int .i64 a1) := by rw [HP.out.cell]; rfl
    have cHQ0 : (W).cell? ⟨w2.heap.size + 1, 0, none⟩ = some (.int .i64 a2) := by rw [HQ.out.cell]; rfl
    have cHQ1 : (W).cell? ⟨w2.heap.size + 1, 1, none⟩ = some (.int .i64 a3) := by rw [HQ.out.cell]; rfl
    have cHE0 : (W).cell? ⟨w4.heap.size, 0, none⟩ = some (.int .i64 e0) := by rw [HE.out.cell]; rfl
    have cHE1 : (W).cell? ⟨w4.heap.size, 1, none⟩ = some (.int .i64 e1) := by rw [HE.out.cell]; rfl
    go_wp2_with fail
    go_at_call 39; refine (between_yes T2.out _).mono ?_; rintro e w31 ⟨rfl, hb31⟩; have hka := Bel.ka HB.out hb31 (by repeat (with_reducible first | exact Below.refl _ _ | refine Bel.alloc ?_ _ | refine Below.drew ?_ | refine Bel.drewN ?_ _)); (try (replace HP := Lib.hid (Blk.step hb31 (Blk.step hka HP.out)))); (try (replace HQ := Lib.hid (Blk.step hb31 (Blk.step hka HQ.out)))); (try (replace HF := Lib.hid (Blk.step hb31 (Blk.step hka HF.out)))); replace HB := Lib.hid (Bel.step hb31 (Bel.step hka HB.out)); have hsz31 := hb31.size; have hsy31 := hka.size; (try simp only [World.size_alloc, World.size_drew, World.heap_drewN, World.size_setCell] at hsz31 hsy31); clear hka hb31
    clear cHP0 cHP1 cHQ0 cHQ1 cHE0 cHE1
    have cHP0 : (w31).cell? ⟨w2.heap.size, 0, none⟩ = some (.int .i64 a0) := by rw [HP.out.cell]; rfl
    have cHP1 : (w31).cell? ⟨w2.heap.size, 1, none⟩ = some (.int .i64 a1) := by rw [HP.out.cell]; rfl
    have cHQ0 : (w31).cell? ⟨w2.heap.size + 1, 0, none⟩ = some (.int .i64 a2) := by rw [HQ.out.cell]; rfl
    have cHQ1 : (w31).cell? ⟨w2.heap.size + 1, 1, none⟩ = some (.int .i64 a3) := by rw [HQ.out.cell]; rfl
    have cHF0 : (w31).cell? ⟨w4.heap.size + 1, 0, none⟩ = some (.int .i64 e2) := by rw [HF.out.cell]; rfl
    have cHF1 : (w31).cell? ⟨w4.heap.size + 1, 1, none⟩ = some (.int .i64 e3) := by rw [HF.out.cell]; rfl
    go_wp2_with fail
    go_at_call 39; refine (between_yes T3.out _).mono ?_; rintro e w32 ⟨rfl, hb32⟩; have hka := Bel.ka HB.out hb32 (by repeat (with_reducible first | exact Below.refl _ _ | refine Bel.alloc ?_ _ | refine Below.drew ?_ | refine Bel.drewN ?_ _)); replace HB := Lib.hid (Bel.step hb32 (Bel.step hka HB.out)); have hsz32 := hb32.size; have hsy32 := hka.size; (try simp only [World.size_alloc, World.size_drew, World.heap_drewN, World.size_setCell] at hsz32 hsy32); clear hka hb32
    go_wp2
    go_ret
    exact ⟨rfl, HB.out⟩
  obtain ⟨m1, m2⟩ := HMore.out hko0 hy
  have hy0 : 0 ≤ y := by
    have h0 : olC D pd pt rd rt sd st y = 0 := by rw [← HO.out.1]; exact hko0
    have h1 : clC D y (okF pd pt && okF rd rt && okF sd st) = 0 := by
      unfold olC olK at h0
      by_cases hk : clC D y (okF pd pt && okF rd rt && okF sd st) = 0
      · exact hk
      · rw [if_neg hk] at h0; exact absurd h0 hk
    unfold clC at h1
    by_cases h2 : (okCh D && (okF pd pt && okF rd rt && okF sd st)) = true
    · rw [if_pos h2] at h1
      by_cases h3 : inB y 0 200 = true
      · exact (inB_iff.1 h3).1
      · rw [if_neg h3] at h1; cases h1
    · rw [if_neg h2] at h1; cases h1
  have ey : IntKind.i64.wrap (y + 1) = y + 1 := wr64 (by omega) (by omega)
  have M2 := Lib.hid m2
  subst hko0
  go_wp2_with (first | (refine wpList_load_blkG 30 _ _ (Blk.step (Bel.ka0 HB.out (by repeat (with_reducible first | exact Below.refl _ _ | refine Bel.alloc ?_ _ | refine Below.drew ?_ | refine Bel.drewN ?_ _))) HD.out) Try.underlying30 (by kernel_rfl) rfl rfl (by rfl) ?_) | (refine wpList_load_blkG 25 _ _ (Blk.step (Bel.ka0 HB.out (by repeat (with_reducible first | exact Below.refl _ _ | refine Bel.alloc ?_ _ | refine Below.drew ?_ | refine Bel.drewN ?_ _))) HDU.out) Try.underlying25 (by kernel_rfl) rfl rfl (by rfl) ?_) | (refine wpList_load_blkG 25 _ _ (Blk.step (Bel.ka0 HB.out (by repeat (with_reducible first | exact Below.refl _ _ | refine Bel.alloc ?_ _ | refine Below.drew ?_ | refine Bel.drewN ?_ _))) HDV.out) Try.underlying25 (by kernel_rfl) rfl rfl (by rfl) ?_) | (refine wpList_load_blkG 25 _ _ (Blk.step (Bel.ka0 HB.out (by repeat (with_reducible first | exact Below.refl _ _ | refine Bel.alloc ?_ _ | refine Below.drew ?_ | refine Bel.drewN ?_ _))) HDW.out) Try.underlying25 (by kernel_rfl) rfl rfl (by rfl) ?_))
  go_at_call 37; refine (IsOnLine_I D (some ⟨gd, 0, none⟩) qd pd pt rd rt sd st (y + 1) hdn hdm _ (by repeat (with_reducible first | exact HJ.out | assumption | refine Ints.drew ?_ | refine Ints.drewN _ ?_ | refine Ints.alloc _ ?_ | refine Ints.step (by assumption) ?_))).mono ?_; rintro e w13 ⟨rfl, hb13⟩; have hka := Bel.ka HB.out hb13 (by repeat (with_reducible first | exact Below.refl _ _ | refine Bel.alloc ?_ _ | refine Below.drew ?_ | refine Bel.drewN ?_ _)); (try (replace HP := Lib.hid (Blk.step hb13 (Blk.step hka HP.out)))); (try (replace HQ := Lib.hid (Blk.step hb13 (Blk.step hka HQ.out)))); (try (replace HE := Lib.hid (Blk.step hb13 (Blk.step hka HE.out)))); (try (replace HF := Lib.hid (Blk.step hb13 (Blk.step hka HF.out)))); replace HB := Lib.hid (Bel.step hb13 (Bel.step hka HB.out)); have hsz13 := hb13.size; have hsy13 := hka.size; (try simp only [World.size_alloc, World.size_drew, World.heap_drewN, World.size_setCell] at hsz13 hsy13); clear hka hb13
  rw [m1]
  clear m1 m2 ey
  generalize olB D pd pt rd rt sd st (y + 1) = b2 at *
  have m2 := M2.out
  clear M2
  cases bo with
  | false =>
    go_upto_region 17 with (fail)
    obtain ⟨W, rfl⟩ : ∃ U : World, U = w13 := ⟨_, rfl⟩
    by_cases hka0 : ka = 0
    rotate_left
    · have hkb : (ka == 0) = false := by simpa using hka0
      go_wp2
      all_goals (go_ret; exact ⟨rfl, HB.out⟩)
    obtain ⟨t1, t2, t3⟩ := HCES.out hka0
    have T2 := Lib.hid t2
    have T3 := Lib.hid t3
    subst hka0
    subst t1
    clear t2 t3 HMore HO
    have cHP0 : (W).cell? ⟨w2.heap.size, 0, none⟩ = some (.int .i64 a0) := by rw [HP.out.cell]; rfl
    have cHP1 : (W).cell? ⟨w2.heap.size, 1, none⟩ = some (.int .i64 a1) := by rw [HP.out.cell]; rfl
    have cHQ0 : (W).cell? ⟨w2.heap.size + 1, 0, none⟩ = some (.int .i64 a2) := by rw [HQ.out.cell]; rfl
    have cHQ1 : (W).cell? ⟨w2.heap.size + 1, 1, none⟩ = some (.int .i64 a3) := by rw [HQ.out.cell]; rfl
    have cHE0 : (W).cell? ⟨w4.heap.size, 0, none⟩ = some (.int .i64 e0) := by rw [HE.out.cell]; rfl
    have cHE1 : (W).cell? ⟨w4.heap.size, 1, none⟩ = some (.int .i64 e1) := by rw [HE.out.cell]; rfl
    go_wp2_with fail
    go_at_call 39; refine (between_yes T2.out _).mono ?_; rintro e w31 ⟨rfl, hb31⟩; have hka := Bel.ka HB.out hb31 (by repeat (with_reducible first | exact Below.refl _ _ | refine Bel.alloc ?_ _ | refine Below.drew ?_ | refine Bel.drewN ?_ _)); (try (replace HP := Lib.hid (Blk.step hb31 (Blk.step hka HP.out)))); (try (replace HQ := Lib.hid (Blk.step hb31 (Blk.step hka HQ.out)))); (try (replace HF := Lib.hid (Blk.step hb31 (Blk.step hka HF.out)))); replace HB := Lib.hid (Bel.step hb31 (Bel.step hka HB.out)); have hsz31 := hb31.size; have hsy31 := hka.size; (try simp only [World.size_alloc, World.size_drew, World.heap_drewN, World.size_setCell] at hsz31 hsy31); clear hka hb31
    clear cHP0 cHP1 cHQ0 cHQ1 cHE0 cHE1
    have cHP0 : (w31).cell? ⟨w2.heap.size, 0, none⟩ = some (.int .i64 a0) := by rw [HP.out.cell]; rfl
    have cHP1 : (w31).cell? ⟨w2.heap.size, 1, none⟩ = some (.int .i64 a1) := by rw [HP.out.cell]; rfl
    have cHQ0 : (w31).cell? ⟨w2.heap.size + 1, 0, none⟩ = some (.int .i64 a2) := by rw [HQ.out.cell]; rfl
    have cHQ1 : (w31).cell? ⟨w2.heap.size + 1, 1, none⟩ = some (.int .i64 a3) := by rw [HQ.out.cell]; rfl
    have cHF0 : (w31).cell? ⟨w4.heap.size + 1, 0, none⟩ = some (.int .i64 e2) := by rw [HF.out.cell]; rfl
    have cHF1 : (w31).cell? ⟨w4.heap.size + 1, 1, none⟩ = some (.int .i64 e3) := by rw [HF.out.cell]; rfl
    go_wp2_with fail
    go_at_call 39; refine (between_yes T3.out _).mono ?_; rintro e w32 ⟨rfl, hb32⟩; have hka := Bel.ka HB.out hb32 (by repeat (with_reducible first | exact Below.refl _ _ | refine Bel.alloc ?_ _ | refine Below.drew ?_ | refine Bel.drewN ?_ _)); replace HB := Lib.hid (Bel.step hb32 (Bel.step hka HB.out)); have hsz32 := hb32.size; have hsy32 := hka.size; (try simp only [World.size_alloc, World.size_drew, World.heap_drewN, World.size_setCell] at hsz32 hsy32); clear hka hb32
    go_wp2
    go_ret
    exact ⟨rfl, HB.out⟩
  | true =>
    obtain rfl : b2 = true := m2 rfl
    go_upto_region 17 with (fail)
    obtain ⟨W, rfl⟩ : ∃ U : World, U = w13 := ⟨_, rfl⟩
    by_cases hka0 : ka = 0
    rotate_left
    · have hkb : (ka == 0) = false := by simpa using hka0
      go_wp2
      all_goals (go_ret; exact ⟨rfl, HB.out⟩)
    obtain ⟨t1, t2, t3⟩ := HCES.out hka0
    have T2 := Lib.hid t2
    have T3 := Lib.hid t3
    subst hka0
    subst t1
    clear t2 t3 HMore HO
    have cHP0 : (W).cell? ⟨w2.heap.size, 0, none⟩ = some (.int .i64 a0) := by rw [HP.out.cell]; rfl
    have cHP1 : (W).cell? ⟨w2.heap.size, 1, none⟩ = some (.int .i64 a1) := by rw [HP.out.cell]; rfl
    have cHQ0 : (W).cell? ⟨w2.heap.size + 1, 0, none⟩ = some (.int .i64 a2) := by rw [HQ.out.cell]; rfl
    have cHQ1 : (W).cell? ⟨w2.heap.size + 1, 1, none⟩ = some (.int .i64 a3) := by rw [HQ.out.cell]; rfl
    have cHE0 : (W).cell? ⟨w4.heap.size, 0, none⟩ = some (.int .i64 e0) := by rw [HE.out.cell]; rfl
    have cHE1 : (W).cell? ⟨w4.heap.size, 1, none⟩ = some (.int .i64 e1) := by rw [HE.out.cell]; rfl
    go_wp2_with fail
    go_at_call 39; refine (between_yes T2.out _).mono ?_; rintro e w31 ⟨rfl, hb31⟩; have hka := Bel.ka HB.out hb31 (by repeat (with_reducible first | exact Below.refl _ _ | refine Bel.alloc ?_ _ | refine Below.drew ?_ | refine Bel.drewN ?_ _)); (try (replace HP := Lib.hid (Blk.step hb31 (Blk.step hka HP.out)))); (try (replace HQ := Lib.hid (Blk.step hb31 (Blk.step hka HQ.out)))); (try (replace HF := Lib.hid (Blk.step hb31 (Blk.step hka HF.out)))); replace HB := Lib.hid (Bel.step hb31 (Bel.step hka HB.out)); have hsz31 := hb31.size; have hsy31 := hka.size; (try simp only [World.size_alloc, World.size_drew, World.heap_drewN, World.size_setCell] at hsz31 hsy31); clear hka hb31
    clear cHP0 cHP1 cHQ0 cHQ1 cHE0 cHE1
    have cHP0 : (w31).cell? ⟨w2.heap.size, 0, none⟩ = some (.int .i64 a0) := by rw [HP.out.cell]; rfl
    have cHP1 : (w31).cell? ⟨w2.heap.size, 1, none⟩ = some (.int .i64 a1) := by rw [HP.out.cell]; rfl
    have cHQ0 : (w31).cell? ⟨w2.heap.size + 1, 0, none⟩ = some (.int .i64 a2) := by rw [HQ.out.cell]; rfl
    have cHQ1 : (w31).cell? ⟨w2.heap.size + 1, 1, none⟩ = some (.int .i64 a3) := by rw [HQ.out.cell]; rfl
    have cHF0 : (w31).cell? ⟨w4.heap.size + 1, 0, none⟩ = some (.int .i64 e2) := by rw [HF.out.cell]; rfl
    have cHF1 : (w31).cell? ⟨w4.heap.size + 1, 1, none⟩ = some (.int .i64 e3) := by rw [HF.out.cell]; rfl
    go_wp2_with fail
    go_at_call 39; refine (between_yes T3.out _).mono ?_; rintro e w32 ⟨rfl, hb32⟩; have hka := Bel.ka HB.out hb32 (by repeat (with_reducible first | exact Below.refl _ _ | refine Bel.alloc ?_ _ | refine Below.drew ?_ | refine Bel.drewN ?_ _)); replace HB := Lib.hid (Bel.step hb32 (Bel.step hka HB.out)); have hsz32 := hb32.size; have hsy32 := hka.size; (try simp only [World.size_alloc, World.size_drew, World.heap_drewN, World.size_setCell] at hsz32 hsy32); clear hka hb32
    go_wp2
    go_ret
    exact ⟨rfl, HB.out⟩
end Go.Proofs.Ytpmcgicopogbhaa
