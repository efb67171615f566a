/- The statement FnCharts, walked. No conditions. -/
import Derived.Test.YtpmcgicopogbhaaProg
import Derived.Test.YtpmcgicopogbhaaBase
import Derived.Test.YtpmcgicopogbhaaRw
import Derived.Test.YtpmcgicopogbhaaRg
import Derived.Test.YtpmcgicopogbhaaL01
import Derived.Test.YtpmcgicopogbhaaCp
import Derived.Test.YtpmcgicopogbhaaL18
import Derived.Test.YtpmcgicopogbhaaL23
import Derived.Test.YtpmcgicopogbhaaL23b
import Derived.Test.YtpmcgicopogbhaaL03
import Derived.Test.YtpmcgicopogbhaaL04
import Derived.Test.YtpmcgicopogbhaaL23d
import Derived.Test.YtpmcgicopogbhaaL23e
import Derived.Test.YtpmcgicopogbhaaL23f
import Derived.Test.YtpmcgicopogbhaaL23g
import Derived.Test.YtpmcgicopogbhaaL24
import Derived.Test.YtpmcgicopogbhaaP23c
import Derived.Test.YtpmcgicopogbhaaE24
import Derived.Test.YtpmcgicopogbhaaE23
import Derived.Test.YtpmcgicopogbhaaE23b
import Derived.Test.YtpmcgicopogbhaaD00
import Derived.Test.YtpmcgicopogbhaaD01
import Derived.Test.YtpmcgicopogbhaaD23b
import Derived.Test.YtpmcgicopogbhaaD23d
import Derived.WalkKit
import Derived.WalkSpells
import Derived.WalkLawsBesides
import Derived.Lib.Hide
import Derived.Deep.QuietTactic
import Derived.BigQuiet
import Derived.Deep.Draws
import Derived.Deep.RegionHeld3
import Derived.Deep.Cut
namespace Go.Proofs.Ytpmcgicopogbhaa
open Go.RowKit
set_option linter.unusedVariables false
set_option linter.unusedSimpArgs false
set_option maxRecDepth 50000 in
set_option maxHeartbeats 32000000 in
theorem FnCharts_w (w : World) (A : Option Addr) (c : Nat) (zs : List Int) (hl : zs.length ≤ 9223372036854775807) (hA : Byts w A zs) :
    Calls Try.prog 4 #[.slice A zs.length c] w fun e w' => e = .returned (.bool true) ∧ Below w.heap.size w w' := by
  have HB := Lib.hid (Below.refl w.heap.size w)
  by_cases hz : zs.length ≤ 4096
  rotate_left
  · go_enter Try.func4, Try.ntmps4
    go_wp2_with fail
    go_at_call 8; refine (big_yes A c zs.length (by omega) _).mono ?_; rintro e w' ⟨rfl, rfl⟩
    go_wp2
    go_ret
    exact ⟨rfl, HB.out⟩
  have HA := Lib.hid hA
  clear hA hl
  go_enter Try.func4, Try.ntmps4
  go_wp2_with fail
  go_at_call 8; refine (big_no A c zs.length hz _).mono ?_; rintro e w' ⟨rfl, rfl⟩
  go_wp2_with fail
  go_at_call 18; refine (DrawChartPoint_c A c zs hz _ HA.out).mono ?_; rintro e w1 ⟨C, g, q, sc, fd, ft, rfl, hn0, hm0, hO, hb1⟩; have hka := Bel.ka HB.out hb1 (by repeat (with_reducible first | exact Below.refl _ _ | refine Bel.alloc ?_ _ | refine Below.drew ?_ | refine Bel.drewN ?_ _)); replace HB := Lib.hid (Bel.step hb1 (Bel.step hka HB.out)); have hsz1 := hb1.size; have hsy1 := hka.size; (try simp only [World.size_alloc, World.size_drew, World.heap_drewN, World.size_setCell] at hsz1 hsy1); clear hka hb1
  have HI := Lib.hid hO.ints
  have hn : C.zs.length ≤ 1048576 := by omega
  have hm : C.nm.size ≤ 1048576 := by omega
  clear hO hn0 hm0 HA
  have HC := Lib.hid (by have h := Blk.new w1 30 #[.int .i64 C.dg, .int .i64 C.tn, .string C.nm, .slice (some ⟨g, 0, none⟩) C.zs.length q, .int .i64 C.wd, .int .i64 C.lf, .int .i64 C.rt]; (try simp only [World.size_alloc] at h); exact h)
  replace HI := Lib.hid (Ints.alloc (.cells #[.int .i64 C.dg, .int .i64 C.tn, .string C.nm, .slice (some ⟨g, 0, none⟩) C.zs.length q, .int .i64 C.wd, .int .i64 C.lf, .int .i64 C.rt] 30) HI.out)
  replace HB := Lib.hid (Bel.alloc HB.out (.cells #[.int .i64 C.dg, .int .i64 C.tn, .string C.nm, .slice (some ⟨g, 0, none⟩) C.zs.length q, .int .i64 C.wd, .int .i64 C.lf, .int .i64 C.rt] 30))
  have HU := Lib.hid (by have h := Blk.new (w1.alloc (.cells #[.int .i64 C.dg, .int .i64 C.tn, .string C.nm, .slice (some ⟨g, 0, none⟩) C.zs.length q, .int .i64 C.wd, .int .i64 C.lf, .int .i64 C.rt] 30)) 25 #[.int .i64 fd, .int .i64 ft]; (try simp only [World.size_alloc] at h); exact h)
  replace HC := Lib.hid (Blk.alloc (.cells #[.int .i64 fd, .int .i64 ft] 25) HC.out)
  replace HI := Lib.hid (Ints.alloc (.cells #[.int .i64 fd, .int .i64 ft] 25) HI.out)
  replace HB := Lib.hid (Bel.alloc HB.out (.cells #[.int .i64 fd, .int .i64 ft] 25))
  go_wp2_with (first | (refine wpList_load_blkG 30 _ _ (Blk.step (Bel.ka0 HB.out (by repeat (with_reducible first | exact Below.refl _ _ | refine Bel.alloc ?_ _ | refine Below.drew ?_ | refine Bel.drewN ?_ _))) HC.out) Try.underlying30 (by kernel_rfl) rfl rfl (by rfl) ?_) | (refine wpList_load_blkG 25 _ _ (Blk.step (Bel.ka0 HB.out (by repeat (with_reducible first | exact Below.refl _ _ | refine Bel.alloc ?_ _ | refine Below.drew ?_ | refine Bel.drewN ?_ _))) HU.out) Try.underlying25 (by kernel_rfl) rfl rfl (by rfl) ?_))
  go_at_call 19; refine (ChartPoint_I C (some ⟨g, 0, none⟩) q sc fd ft hn hm _ (by repeat (with_reducible first | exact HI.out | assumption | refine Ints.drew ?_ | refine Ints.drewN _ ?_ | refine Ints.alloc _ ?_ | refine Ints.step (by assumption) ?_))).mono ?_; rintro e w2 ⟨rfl, hb2⟩; have hka := Bel.ka HB.out hb2 (by repeat (with_reducible first | exact Below.refl _ _ | refine Bel.alloc ?_ _ | refine Below.drew ?_ | refine Bel.drewN ?_ _)); (try (replace HC := Lib.hid (Blk.step hb2 (Blk.step hka HC.out)))); (try (replace HU := Lib.hid (Blk.step hb2 (Blk.step hka HU.out)))); (try (replace HI := Lib.hid (Ints.step hb2 (Ints.step hka HI.out)))); replace HB := Lib.hid (Bel.step hb2 (Bel.step hka HB.out)); have hsz2 := hb2.size; have hsy2 := hka.size; (try simp only [World.size_alloc, World.size_drew, World.heap_drewN, World.size_setCell] at hsz2 hsy2); clear hka hb2
  have hin := fun h => pt_in (C := C) (sc := sc) (dg := fd) (tn := ft) h
  obtain ⟨kp, hkp⟩ : ∃ k, k = cqC C sc fd ft := ⟨_, rfl⟩
  obtain ⟨p0, hp0⟩ : ∃ k, k = ptX C sc fd ft := ⟨_, rfl⟩
  obtain ⟨p1, hp1⟩ : ∃ k, k = ptY C sc fd ft := ⟨_, rfl⟩
  obtain ⟨l0, hl0⟩ : ∃ k, k = cqL C sc fd ft := ⟨_, rfl⟩
  obtain ⟨l1, hl1⟩ : ∃ k, k = cqH C sc fd ft := ⟨_, rfl⟩
  rw [← hkp, ← hp1, ← hl0, ← hl1] at hin
  rw [← hkp, ← hp0, ← hp1]
  have HPV := Lib.hid (And.intro hkp (And.intro hp0 (And.intro hp1 (And.intro hl0 hl1))))
  have HIn := Lib.hid hin
  clear hkp hp0 hp1 hl0 hl1 hin
  have HP := Lib.hid (by have h := Blk.new w2 50 #[.int .i64 p0, .int .i64 p1]; (try simp only [World.size_alloc] at h); exact h)
  replace HC := Lib.hid (Blk.alloc (.cells #[.int .i64 p0, .int .i64 p1] 50) HC.out)
  replace HU := Lib.hid (Blk.alloc (.cells #[.int .i64 p0, .int .i64 p1] 50) HU.out)
  replace HI := Lib.hid (Ints.alloc (.cells #[.int .i64 p0, .int .i64 p1] 50) HI.out)
  replace HB := Lib.hid (Bel.alloc HB.out (.cells #[.int .i64 p0, .int .i64 p1] 50))
  go_wp2_with (first | (refine wpList_load_blkG 30 _ _ (Blk.step (Bel.ka0 HB.out (by repeat (with_reducible first | exact Below.refl _ _ | refine Bel.alloc ?_ _ | refine Below.drew ?_ | refine Bel.drewN ?_ _))) HC.out) Try.underlying30 (by kernel_rfl) rfl rfl (by rfl) ?_) | (refine wpList_load_blkG 25 _ _ (Blk.step (Bel.ka0 HB.out (by repeat (with_reducible first | exact Below.refl _ _ | refine Bel.alloc ?_ _ | refine Below.drew ?_ | refine Bel.drewN ?_ _))) HU.out) Try.underlying25 (by kernel_rfl) rfl rfl (by rfl) ?_))
  go_at_call 20; refine (ChartPoint_S C (some ⟨g, 0, none⟩) q sc fd ft hn hm _ (by repeat (with_reducible first | exact HI.out | assumption | refine Ints.drew ?_ | refine Ints.drewN _ ?_ | refine Ints.alloc _ ?_ | refine Ints.step (by assumption) ?_))).mono ?_; rintro e w3 ⟨rfl, hb3⟩; have hka := Bel.ka HB.out hb3 (by repeat (with_reducible first | exact Below.refl _ _ | refine Bel.alloc ?_ _ | refine Below.drew ?_ | refine Bel.drewN ?_ _)); (try (replace HC := Lib.hid (Blk.step hb3 (Blk.step hka HC.out)))); (try (replace HU := Lib.hid (Blk.step hb3 (Blk.step hka HU.out)))); (try (replace HP := Lib.hid (Blk.step hb3 (Blk.step hka HP.out)))); (try (replace HI := Lib.hid (Ints.step hb3 (Ints.step hka HI.out)))); replace HB := Lib.hid (Bel.step hb3 (Bel.step hka HB.out)); have hsz3 := hb3.size; have hsy3 := hka.size; (try simp only [World.size_alloc, World.size_drew, World.heap_drewN, World.size_setCell] at hsz3 hsy3); clear hka hb3
  rw [← HPV.out.1, ← HPV.out.2.1, ← HPV.out.2.2.1]
  have HP2 := Lib.hid (by have h := Blk.new w3 50 #[.int .i64 p0, .int .i64 p1]; (try simp only [World.size_alloc] at h); exact h)
  replace HC := Lib.hid (Blk.alloc (.cells #[.int .i64 p0, .int .i64 p1] 50) HC.out)
  replace HU := Lib.hid (Blk.alloc (.cells #[.int .i64 p0, .int .i64 p1] 50) HU.out)
  replace HP := Lib.hid (Blk.alloc (.cells #[.int .i64 p0, .int .i64 p1] 50) HP.out)
  replace HI := Lib.hid (Ints.alloc (.cells #[.int .i64 p0, .int .i64 p1] 50) HI.out)
  replace HB := Lib.hid (Bel.alloc HB.out (.cells #[.int .i64 p0, .int .i64 p1] 50))
  go_wp2_with (first | (refine wpList_load_blkG 30 _ _ (Blk.step (Bel.ka0 HB.out (by repeat (with_reducible first | exact Below.refl _ _ | refine Bel.alloc ?_ _ | refine Below.drew ?_ | refine Bel.drewN ?_ _))) HC.out) Try.underlying30 (by kernel_rfl) rfl rfl (by rfl) ?_) | (refine wpList_load_blkG 25 _ _ (Blk.step (Bel.ka0 HB.out (by repeat (with_reducible first | exact Below.refl _ _ | refine Bel.alloc ?_ _ | refine Below.drew ?_ | refine Bel.drewN ?_ _))) HU.out) Try.underlying25 (by kernel_rfl) rfl rfl (by rfl) ?_))
  go_at_call 21; refine (ChartPlace_I C (some ⟨g, 0, none⟩) q sc fd ft hn hm _ (by repeat (with_reducible first | exact HI.out | assumption | refine Ints.drew ?_ | refine Ints.drewN _ ?_ | refine Ints.alloc _ ?_ | refine Ints.step (by assumption) ?_))).mono ?_; rintro e w4 ⟨rfl, hb4⟩; have hka := Bel.ka HB.out hb4 (by repeat (with_reducible first | exact Below.refl _ _ | refine Bel.alloc ?_ _ | refine Below.drew ?_ | refine Bel.drewN ?_ _)); (try (replace HC := Lib.hid (Blk.step hb4 (Blk.step hka HC.out)))); (try (replace HU := Lib.hid (Blk.step hb4 (Blk.step hka HU.out)))); (try (replace HP := Lib.hid (Blk.step hb4 (Blk.step hka HP.out)))); (try (replace HP2 := Lib.hid (Blk.step hb4 (Blk.step hka HP2.out)))); (try (replace HI := Lib.hid (Ints.step hb4 (Ints.step hka HI.out)))); replace HB := Lib.hid (Bel.step hb4 (Bel.step hka HB.out)); have hsz4 := hb4.size; have hsy4 := hka.size; (try simp only [World.size_alloc, World.size_drew, World.heap_drewN, World.size_setCell] at hsz4 hsy4); clear hka hb4
  rw [← HPV.out.1, ← HPV.out.2.2.2.1, ← HPV.out.2.2.2.2]
  have HL := Lib.hid (by have h := Blk.new w4 39 #[.int .i64 l0, .int .i64 l1]; (try simp only [World.size_alloc] at h); exact h)
  replace HC := Lib.hid (Blk.alloc (.cells #[.int .i64 l0, .int .i64 l1] 39) HC.out)
  replace HU := Lib.hid (Blk.alloc (.cells #[.int .i64 l0, .int .i64 l1] 39) HU.out)
  replace HP := Lib.hid (Blk.alloc (.cells #[.int .i64 l0, .int .i64 l1] 39) HP.out)
  replace HP2 := Lib.hid (Blk.alloc (.cells #[.int .i64 l0, .int .i64 l1] 39) HP2.out)
  replace HI := Lib.hid (Ints.alloc (.cells #[.int .i64 l0, .int .i64 l1] 39) HI.out)
  replace HB := Lib.hid (Bel.alloc HB.out (.cells #[.int .i64 l0, .int .i64 l1] 39))
  go_wp2_with (first | (refine wpList_load_blkG 30 _ _ (Blk.step (Bel.ka0 HB.out (by repeat (with_reducible first | exact Below.refl _ _ | refine Bel.alloc ?_ _ | refine Below.drew ?_ | refine Bel.drewN ?_ _))) HC.out) Try.underlying30 (by kernel_rfl) rfl rfl (by rfl) ?_) | (refine wpList_load_blkG 25 _ _ (Blk.step (Bel.ka0 HB.out (by repeat (with_reducible first | exact Below.refl _ _ | refine Bel.alloc ?_ _ | refine Below.drew ?_ | refine Bel.drewN ?_ _))) HU.out) Try.underlying25 (by kernel_rfl) rfl rfl (by rfl) ?_))
  go_at_call 22; refine (ChartPlace_S C (some ⟨g, 0, none⟩) q sc fd ft hn hm _ (by repeat (with_reducible first | exact HI.out | assumption | refine Ints.drew ?_ | refine Ints.drewN _ ?_ | refine Ints.alloc _ ?_ | refine Ints.step (by assumption) ?_))).mono ?_; rintro e w5 ⟨rfl, hb5⟩; have hka := Bel.ka HB.out hb5 (by repeat (with_reducible first | exact Below.refl _ _ | refine Bel.alloc ?_ _ | refine Below.drew ?_ | refine Bel.drewN ?_ _)); (try (replace HC := Lib.hid (Blk.step hb5 (Blk.step hka HC.out)))); (try (replace HP := Lib.hid (Blk.step hb5 (Blk.step hka HP.out)))); (try (replace HP2 := Lib.hid (Blk.step hb5 (Blk.step hka HP2.out)))); (try (replace HL := Lib.hid (Blk.step hb5 (Blk.step hka HL.out)))); (try (replace HI := Lib.hid (Ints.step hb5 (Ints.step hka HI.out)))); replace HB := Lib.hid (Bel.step hb5 (Bel.step hka HB.out)); have hsz5 := hb5.size; have hsy5 := hka.size; (try simp only [World.size_alloc, World.size_drew, World.heap_drewN, World.size_setCell] at hsz5 hsy5); clear hka hb5
  rw [← HPV.out.1, ← HPV.out.2.2.2.1, ← HPV.out.2.2.2.2]
  clear HPV HU
  have HL2 := Lib.hid (by have h := Blk.new w5 39 #[.int .i64 l0, .int .i64 l1]; (try simp only [World.size_alloc] at h); exact h)
  replace HC := Lib.hid (Blk.alloc (.cells #[.int .i64 l0, .int .i64 l1] 39) HC.out)
  replace HP := Lib.hid (Blk.alloc (.cells #[.int .i64 l0, .int .i64 l1] 39) HP.out)
  replace HP2 := Lib.hid (Blk.alloc (.cells #[.int .i64 l0, .int .i64 l1] 39) HP2.out)
  replace HL := Lib.hid (Blk.alloc (.cells #[.int .i64 l0, .int .i64 l1] 39) HL.out)
  replace HI := Lib.hid (Ints.alloc (.cells #[.int .i64 l0, .int .i64 l1] 39) HI.out)
  replace HB := Lib.hid (Bel.alloc HB.out (.cells #[.int .i64 l0, .int .i64 l1] 39))
  go_wp2_with (first | (refine wpList_load_blkG 30 _ _ (Blk.step (Bel.ka0 HB.out (by repeat (with_reducible first | exact Below.refl _ _ | refine Bel.alloc ?_ _ | refine Below.drew ?_ | refine Bel.drewN ?_ _))) HC.out) Try.underlying30 (by kernel_rfl) rfl rfl (by rfl) ?_))
  go_at_call 23; refine (FlipChart_I C (some ⟨g, 0, none⟩) q hn hm _ (by repeat (with_reducible first | exact HI.out | assumption | refine Ints.drew ?_ | refine Ints.drewN _ ?_ | refine Ints.alloc _ ?_ | refine Ints.step (by assumption) ?_))).mono ?_; rintro e w6 ⟨A1, c1, rfl, hO1, hb6⟩; have hka := Bel.ka HB.out hb6 (by repeat (with_reducible first | exact Below.refl _ _ | refine Bel.alloc ?_ _ | refine Below.drew ?_ | refine Bel.drewN ?_ _)); (try (replace HC := Lib.hid (Blk.step hb6 (Blk.step hka HC.out)))); (try (replace HP := Lib.hid (Blk.step hb6 (Blk.step hka HP.out)))); (try (replace HP2 := Lib.hid (Blk.step hb6 (Blk.step hka HP2.out)))); (try (replace HL := Lib.hid (Blk.step hb6 (Blk.step hka HL.out)))); (try (replace HL2 := Lib.hid (Blk.step hb6 (Blk.step hka HL2.out)))); (try (replace HI := Lib.hid (Ints.step hb6 (Ints.step hka HI.out)))); replace HB := Lib.hid (Bel.step hb6 (Bel.step hka HB.out)); have hsz6 := hb6.size; have hsy6 := hka.size; (try simp only [World.size_alloc, World.size_drew, World.heap_drewN, World.size_setCell] at hsz6 hsy6); clear hka hb6
  have htwo := fun h => fl_two (C := C) h
  have hmw := fun h => mid_wr (C := C) h
  have hlen : (flV C).zs.length ≤ 1048576 ∧ (flV C).nm.size ≤ 1048576 := by
    unfold flV
    split
    · exact ⟨hn, hm⟩
    · exact ⟨Nat.zero_le _, Nat.zero_le _⟩
  have hcode := fl_code C
  obtain ⟨F, hF⟩ : ∃ F, F = flV C := ⟨_, rfl⟩
  obtain ⟨kf, hkf⟩ : ∃ k, k = flC C := ⟨_, rfl⟩
  rw [← hF] at htwo hmw hlen hO1
  rw [← hkf] at htwo hcode
  rw [← hF, ← hkf]
  have HFV := Lib.hid (And.intro hF hkf)
  clear hF hkf
  have HI1 := Lib.hid hO1.ints
  clear hO1
  obtain ⟨hFn, hFm⟩ := hlen
  have HTwo := Lib.hid htwo
  have HMw := Lib.hid hmw
  have HCode := Lib.hid hcode
  clear htwo hmw hcode
  have HF := Lib.hid (by have h := Blk.new w6 30 #[.int .i64 F.dg, .int .i64 F.tn, .string F.nm, .slice A1 F.zs.length c1, .int .i64 F.wd, .int .i64 F.lf, .int .i64 F.rt]; (try simp only [World.size_alloc] at h); exact h)
  replace HC := Lib.hid (Blk.alloc (.cells #[.int .i64 F.dg, .int .i64 F.tn, .string F.nm, .slice A1 F.zs.length c1, .int .i64 F.wd, .int .i64 F.lf, .int .i64 F.rt] 30) HC.out)
  replace HP := Lib.hid (Blk.alloc (.cells #[.int .i64 F.dg, .int .i64 F.tn, .string F.nm, .slice A1 F.zs.length c1, .int .i64 F.wd, .int .i64 F.lf, .int .i64 F.rt] 30) HP.out)
  replace HP2 := Lib.hid (Blk.alloc (.cells #[.int .i64 F.dg, .int .i64 F.tn, .string F.nm, .slice A1 F.zs.length c1, .int .i64 F.wd, .int .i64 F.lf, .int .i64 F.rt] 30) HP2.out)
  replace HL := Lib.hid (Blk.alloc (.cells #[.int .i64 F.dg, .int .i64 F.tn, .string F.nm, .slice A1 F.zs.length c1, .int .i64 F.wd, .int .i64 F.lf, .int .i64 F.rt] 30) HL.out)
  replace HL2 := Lib.hid (Blk.alloc (.cells #[.int .i64 F.dg, .int .i64 F.tn, .string F.nm, .slice A1 F.zs.length c1, .int .i64 F.wd, .int .i64 F.lf, .int .i64 F.rt] 30) HL2.out)
  replace HI := Lib.hid (Ints.alloc (.cells #[.int .i64 F.dg, .int .i64 F.tn, .string F.nm, .slice A1 F.zs.length c1, .int .i64 F.wd, .int .i64 F.lf, .int .i64 F.rt] 30) HI.out)
  replace HI1 := Lib.hid (Ints.alloc (.cells #[.int .i64 F.dg, .int .i64 F.tn, .string F.nm, .slice A1 F.zs.length c1, .int .i64 F.wd, .int .i64 F.lf, .int .i64 F.rt] 30) HI1.out)
  replace HB := Lib.hid (Bel.alloc HB.out (.cells #[.int .i64 F.dg, .int .i64 F.tn, .string F.nm, .slice A1 F.zs.length c1, .int .i64 F.wd, .int .i64 F.lf, .int .i64 F.rt] 30))
  go_wp2_with (first | (refine wpList_load_blkG 30 _ _ (Blk.step (Bel.ka0 HB.out (by repeat (with_reducible first | exact Below.refl _ _ | refine Bel.alloc ?_ _ | refine Below.drew ?_ | refine Bel.drewN ?_ _))) HC.out) Try.underlying30 (by kernel_rfl) rfl rfl (by rfl) ?_))
  go_at_call 24; refine (FlipChart_S C (some ⟨g, 0, none⟩) q hn hm _ (by repeat (with_reducible first | exact HI.out | assumption | refine Ints.drew ?_ | refine Ints.drewN _ ?_ | refine Ints.alloc _ ?_ | refine Ints.step (by assumption) ?_))).mono ?_; rintro e w7 ⟨A2, c2, rfl, hO2, hb7⟩; have hka := Bel.ka HB.out hb7 (by repeat (with_reducible first | exact Below.refl _ _ | refine Bel.alloc ?_ _ | refine Below.drew ?_ | refine Bel.drewN ?_ _)); (try (replace HC := Lib.hid (Blk.step hb7 (Blk.step hka HC.out)))); (try (replace HP := Lib.hid (Blk.step hb7 (Blk.step hka HP.out)))); (try (replace HP2 := Lib.hid (Blk.step hb7 (Blk.step hka HP2.out)))); (try (replace HL := Lib.hid (Blk.step hb7 (Blk.step hka HL.out)))); (try (replace HL2 := Lib.hid (Blk.step hb7 (Blk.step hka HL2.out)))); (try (replace HI := Lib.hid (Ints.step hb7 (Ints.step hka HI.out)))); (try (replace HF := Lib.hid (Blk.step hb7 (Blk.step hka HF.out)))); (try (replace HI1 := Lib.hid (Ints.step hb7 (Ints.step hka HI1.out)))); replace HB := Lib.hid (Bel.step hb7 (Bel.step hka HB.out)); have hsz7 := hb7.size; have hsy7 := hka.size; (try simp only [World.size_alloc, World.size_drew, World.heap_drewN, World.size_setCell] at hsz7 hsy7); clear hka hb7
  rw [← HFV.out.1] at hO2
  rw [← HFV.out.1, ← HFV.out.2]
  clear HFV
  have HI2 := Lib.hid hO2.ints
  clear hO2
  have HF2 := Lib.hid (by have h := Blk.new w7 30 #[.int .i64 F.dg, .int .i64 F.tn, .string F.nm, .slice A2 F.zs.length c2, .int .i64 F.wd, .int .i64 F.lf, .int .i64 F.rt]; (try simp only [World.size_alloc] at h); exact h)
  replace HC := Lib.hid (Blk.alloc (.cells #[.int .i64 F.dg, .int .i64 F.tn, .string F.nm, .slice A2 F.zs.length c2, .int .i64 F.wd, .int .i64 F.lf, .int .i64 F.rt] 30) HC.out)
  replace HP := Lib.hid (Blk.alloc (.cells #[.int .i64 F.dg, .int .i64 F.tn, .string F.nm, .slice A2 F.zs.length c2, .int .i64 F.wd, .int .i64 F.lf, .int .i64 F.rt] 30) HP.out)
  replace HP2 := Lib.hid (Blk.alloc (.cells #[.int .i64 F.dg, .int .i64 F.tn, .string F.nm, .slice A2 F.zs.length c2, .int .i64 F.wd, .int .i64 F.lf, .int .i64 F.rt] 30) HP2.out)
  replace HL := Lib.hid (Blk.alloc (.cells #[.int .i64 F.dg, .int .i64 F.tn, .string F.nm, .slice A2 F.zs.length c2, .int .i64 F.wd, .int .i64 F.lf, .int .i64 F.rt] 30) HL.out)
  replace HL2 := Lib.hid (Blk.alloc (.cells #[.int .i64 F.dg, .int .i64 F.tn, .string F.nm, .slice A2 F.zs.length c2, .int .i64 F.wd, .int .i64 F.lf, .int .i64 F.rt] 30) HL2.out)
  replace HI := Lib.hid (Ints.alloc (.cells #[.int .i64 F.dg, .int .i64 F.tn, .string F.nm, .slice A2 F.zs.length c2, .int .i64 F.wd, .int .i64 F.lf, .int .i64 F.rt] 30) HI.out)
  replace HF := Lib.hid (Blk.alloc (.cells #[.int .i64 F.dg, .int .i64 F.tn, .string F.nm, .slice A2 F.zs.length c2, .int .i64 F.wd, .int .i64 F.lf, .int .i64 F.rt] 30) HF.out)
  replace HI1 := Lib.hid (Ints.alloc (.cells #[.int .i64 F.dg, .int .i64 F.tn, .string F.nm, .slice A2 F.zs.length c2, .int .i64 F.wd, .int .i64 F.lf, .int .i64 F.rt] 30) HI1.out)
  replace HI2 := Lib.hid (Ints.alloc (.cells #[.int .i64 F.dg, .int .i64 F.tn, .string F.nm, .slice A2 F.zs.length c2, .int .i64 F.wd, .int .i64 F.lf, .int .i64 F.rt] 30) HI2.out)
  replace HB := Lib.hid (Bel.alloc HB.out (.cells #[.int .i64 F.dg, .int .i64 F.tn, .string F.nm, .slice A2 F.zs.length c2, .int .i64 F.wd, .int .i64 F.lf, .int .i64 F.rt] 30))
  go_wp2_with (first | (refine wpList_load_blkG 30 _ _ (Blk.step (Bel.ka0 HB.out (by repeat (with_reducible first | exact Below.refl _ _ | refine Bel.alloc ?_ _ | refine Below.drew ?_ | refine Bel.drewN ?_ _))) HC.out) Try.underlying30 (by kernel_rfl) rfl rfl (by rfl) ?_))
  go_at_call 25; refine (MiddleColumn_I C (some ⟨g, 0, none⟩) q hn hm _ (by repeat (with_reducible first | exact HI.out | assumption | refine Ints.drew ?_ | refine Ints.drewN _ ?_ | refine Ints.alloc _ ?_ | refine Ints.step (by assumption) ?_))).mono ?_; rintro e w8 ⟨rfl, hb8⟩; have hka := Bel.ka HB.out hb8 (by repeat (with_reducible first | exact Below.refl _ _ | refine Bel.alloc ?_ _ | refine Below.drew ?_ | refine Bel.drewN ?_ _)); (try (replace HC := Lib.hid (Blk.step hb8 (Blk.step hka HC.out)))); (try (replace HP := Lib.hid (Blk.step hb8 (Blk.step hka HP.out)))); (try (replace HP2 := Lib.hid (Blk.step hb8 (Blk.step hka HP2.out)))); (try (replace HL := Lib.hid (Blk.step hb8 (Blk.step hka HL.out)))); (try (replace HL2 := Lib.hid (Blk.step hb8 (Blk.step hka HL2.out)))); (try (replace HI := Lib.hid (Ints.step hb8 (Ints.step hka HI.out)))); (try (replace HF := Lib.hid (Blk.step hb8 (Blk.step hka HF.out)))); (try (replace HF2 := Lib.hid (Blk.step hb8 (Blk.step hka HF2.out)))); (try (replace HI1 := Lib.hid (Ints.step hb8 (Ints.step hka HI1.out)))); (try (replace HI2 := Lib.hid (Ints.step hb8 (Ints.step hka HI2.out)))); replace HB := Lib.hid (Bel.step hb8 (Bel.step hka HB.out)); have hsz8 := hb8.size; have hsy8 := hka.size; (try simp only [World.size_alloc, World.size_drew, World.heap_drewN, World.size_setCell] at hsz8 hsy8); clear hka hb8
  have hmf := fun h => mod_facts (C := C) h
  obtain ⟨mL, hmL⟩ : ∃ k, k = mcL C := ⟨_, rfl⟩
  obtain ⟨mH, hmH⟩ : ∃ k, k = mcH C := ⟨_, rfl⟩
  obtain ⟨km, hkm⟩ : ∃ k, k = mmC C := ⟨_, rfl⟩
  have hmw := HMw.out
  rw [← hmL, ← hmH] at hmw
  clear HMw
  rw [← hmL, ← hmH, ← hkm]
  have HMV := Lib.hid (And.intro hmL (And.intro hmH hkm))
  have HMw := Lib.hid hmw
  clear hmL hmH hkm hmw
  go_wp2_with (first | (refine wpList_load_blkG 30 _ _ (Blk.step (Bel.ka0 HB.out (by repeat (with_reducible first | exact Below.refl _ _ | refine Bel.alloc ?_ _ | refine Below.drew ?_ | refine Bel.drewN ?_ _))) HC.out) Try.underlying30 (by kernel_rfl) rfl rfl (by rfl) ?_))
  go_at_call 26; refine (MiddleColumn_S C (some ⟨g, 0, none⟩) q hn hm _ (by repeat (with_reducible first | exact HI.out | assumption | refine Ints.drew ?_ | refine Ints.drewN _ ?_ | refine Ints.alloc _ ?_ | refine Ints.step (by assumption) ?_))).mono ?_; rintro e w9 ⟨rfl, hb9⟩; have hka := Bel.ka HB.out hb9 (by repeat (with_reducible first | exact Below.refl _ _ | refine Bel.alloc ?_ _ | refine Below.drew ?_ | refine Bel.drewN ?_ _)); (try (replace HC := Lib.hid (Blk.step hb9 (Blk.step hka HC.out)))); (try (replace HP := Lib.hid (Blk.step hb9 (Blk.step hka HP.out)))); (try (replace HP2 := Lib.hid (Blk.step hb9 (Blk.step hka HP2.out)))); (try (replace HL := Lib.hid (Blk.step hb9 (Blk.step hka HL.out)))); (try (replace HL2 := Lib.hid (Blk.step hb9 (Blk.step hka HL2.out)))); (try (replace HI := Lib.hid (Ints.step hb9 (Ints.step hka HI.out)))); (try (replace HF := Lib.hid (Blk.step hb9 (Blk.step hka HF.out)))); (try (replace HF2 := Lib.hid (Blk.step hb9 (Blk.step hka HF2.out)))); (try (replace HI1 := Lib.hid (Ints.step hb9 (Ints.step hka HI1.out)))); (try (replace HI2 := Lib.hid (Ints.step hb9 (Ints.step hka HI2.out)))); replace HB := Lib.hid (Bel.step hb9 (Bel.step hka HB.out)); have hsz9 := hb9.size; have hsy9 := hka.size; (try simp only [World.size_alloc, World.size_drew, World.heap_drewN, World.size_setCell] at hsz9 hsy9); clear hka hb9
  rw [← HMV.out.1, ← HMV.out.2.1, ← HMV.out.2.2]
  go_wp2_with (first | (refine wpList_load_blkG 30 _ _ (Blk.step (Bel.ka0 HB.out (by repeat (with_reducible first | exact Below.refl _ _ | refine Bel.alloc ?_ _ | refine Below.drew ?_ | refine Bel.drewN ?_ _))) HC.out) Try.underlying30 (by kernel_rfl) rfl rfl (by rfl) ?_))
  go_at_call 27; refine (MiddleModulus_I C (some ⟨g, 0, none⟩) q hn hm _ (by repeat (with_reducible first | exact HI.out | assumption | refine Ints.drew ?_ | refine Ints.drewN _ ?_ | refine Ints.alloc _ ?_ | refine Ints.step (by assumption) ?_))).mono ?_; rintro e w10 ⟨rfl, hb10⟩; have hka := Bel.ka HB.out hb10 (by repeat (with_reducible first | exact Below.refl _ _ | refine Bel.alloc ?_ _ | refine Below.drew ?_ | refine Bel.drewN ?_ _)); (try (replace HC := Lib.hid (Blk.step hb10 (Blk.step hka HC.out)))); (try (replace HP := Lib.hid (Blk.step hb10 (Blk.step hka HP.out)))); (try (replace HP2 := Lib.hid (Blk.step hb10 (Blk.step hka HP2.out)))); (try (replace HL := Lib.hid (Blk.step hb10 (Blk.step hka HL.out)))); (try (replace HL2 := Lib.hid (Blk.step hb10 (Blk.step hka HL2.out)))); (try (replace HI := Lib.hid (Ints.step hb10 (Ints.step hka HI.out)))); (try (replace HF := Lib.hid (Blk.step hb10 (Blk.step hka HF.out)))); (try (replace HF2 := Lib.hid (Blk.step hb10 (Blk.step hka HF2.out)))); (try (replace HI1 := Lib.hid (Ints.step hb10 (Ints.step hka HI1.out)))); (try (replace HI2 := Lib.hid (Ints.step hb10 (Ints.step hka HI2.out)))); replace HB := Lib.hid (Bel.step hb10 (Bel.step hka HB.out)); have hsz10 := hb10.size; have hsy10 := hka.size; (try simp only [World.size_alloc, World.size_drew, World.heap_drewN, World.size_setCell] at hsz10 hsy10); clear hka hb10
  obtain ⟨mN, hmN⟩ : ∃ k, k = mmN C := ⟨_, rfl⟩
  obtain ⟨mD, hmD⟩ : ∃ k, k = mmD C := ⟨_, rfl⟩
  rw [← hmN, ← hmD] at hmf
  rw [← hmN, ← hmD, ← HMV.out.2.2]
  have HNV := Lib.hid (And.intro hmN hmD)
  have HMf := Lib.hid hmf
  clear hmN hmD hmf
  go_wp2_with (first | (refine wpList_load_blkG 30 _ _ (Blk.step (Bel.ka0 HB.out (by repeat (with_reducible first | exact Below.refl _ _ | refine Bel.alloc ?_ _ | refine Below.drew ?_ | refine Bel.drewN ?_ _))) HC.out) Try.underlying30 (by kernel_rfl) rfl rfl (by rfl) ?_))
  go_at_call 28; refine (MiddleModulus_S C (some ⟨g, 0, none⟩) q hn hm _ (by repeat (with_reducible first | exact HI.out | assumption | refine Ints.drew ?_ | refine Ints.drewN _ ?_ | refine Ints.alloc _ ?_ | refine Ints.step (by assumption) ?_))).mono ?_; rintro e w11 ⟨rfl, hb11⟩; have hka := Bel.ka HB.out hb11 (by repeat (with_reducible first | exact Below.refl _ _ | refine Bel.alloc ?_ _ | refine Below.drew ?_ | refine Bel.drewN ?_ _)); (try (replace HC := Lib.hid (Blk.step hb11 (Blk.step hka HC.out)))); (try (replace HP := Lib.hid (Blk.step hb11 (Blk.step hka HP.out)))); (try (replace HP2 := Lib.hid (Blk.step hb11 (Blk.step hka HP2.out)))); (try (replace HL := Lib.hid (Blk.step hb11 (Blk.step hka HL.out)))); (try (replace HL2 := Lib.hid (Blk.step hb11 (Blk.step hka HL2.out)))); (try (replace HI := Lib.hid (Ints.step hb11 (Ints.step hka HI.out)))); (try (replace HF := Lib.hid (Blk.step hb11 (Blk.step hka HF.out)))); (try (replace HF2 := Lib.hid (Blk.step hb11 (Blk.step hka HF2.out)))); (try (replace HI1 := Lib.hid (Ints.step hb11 (Ints.step hka HI1.out)))); (try (replace HI2 := Lib.hid (Ints.step hb11 (Ints.step hka HI2.out)))); replace HB := Lib.hid (Bel.step hb11 (Bel.step hka HB.out)); have hsz11 := hb11.size; have hsy11 := hka.size; (try simp only [World.size_alloc, World.size_drew, World.heap_drewN, World.size_setCell] at hsz11 hsy11); clear hka hb11
  rw [← HNV.out.1, ← HNV.out.2, ← HMV.out.2.2]
  clear HNV HMV hsz1 hsy1 hsz2 hsy2 hsz3 hsy3 hsz4 hsy4 hsz5 hsy5 hsz6 hsy6 hsz7 hsy7 hsz8 hsy8 hsz9 hsy9 hsz10 hsy10 hsz11 hsy11
  have cp0 : (w11).cell? ⟨w2.heap.size, 0, none⟩ = some (.int .i64 p0) := by rw [HP.out.cell]; rfl
  have cp1 : (w11).cell? ⟨w2.heap.size, 1, none⟩ = some (.int .i64 p1) := by rw [HP.out.cell]; rfl
  have cq0 : (w11).cell? ⟨w3.heap.size, 0, none⟩ = some (.int .i64 p0) := by rw [HP2.out.cell]; rfl
  have cq1 : (w11).cell? ⟨w3.heap.size, 1, none⟩ = some (.int .i64 p1) := by rw [HP2.out.cell]; rfl
  have cl0 : (w11).cell? ⟨w4.heap.size, 0, none⟩ = some (.int .i64 l0) := by rw [HL.out.cell]; rfl
  have cl1 : (w11).cell? ⟨w4.heap.size, 1, none⟩ = some (.int .i64 l1) := by rw [HL.out.cell]; rfl
  have cm0 : (w11).cell? ⟨w5.heap.size, 0, none⟩ = some (.int .i64 l0) := by rw [HL2.out.cell]; rfl
  have cm1 : (w11).cell? ⟨w5.heap.size, 1, none⟩ = some (.int .i64 l1) := by rw [HL2.out.cell]; rfl
  have cf0 : (w11).cell? ⟨w6.heap.size, 0, none⟩ = some (.int .i64 F.dg) := by rw [HF.out.cell]; rfl
  have cf1 : (w11).cell? ⟨w6.heap.size, 1, none⟩ = some (.int .i64 F.tn) := by rw [HF.out.cell]; rfl
  have cf2 : (w11).cell? ⟨w6.heap.size, 2, none⟩ = some (.string F.nm) := by rw [HF.out.cell]; rfl
  have cf3 : (w11).cell? ⟨w6.heap.size, 3, none⟩ = some (.slice A1 F.zs.length c1) := by rw [HF.out.cell]; rfl
  have cf4 : (w11).cell? ⟨w6.heap.size, 4, none⟩ = some (.int .i64 F.wd) := by rw [HF.out.cell]; rfl
  have cf5 : (w11).cell? ⟨w6.heap.size, 5, none⟩ = some (.int .i64 F.lf) := by rw [HF.out.cell]; rfl
  have cf6 : (w11).cell? ⟨w6.heap.size, 6, none⟩ = some (.int .i64 F.rt) := by rw [HF.out.cell]; rfl
  have cg0 : (w11).cell? ⟨w7.heap.size, 0, none⟩ = some (.int .i64 F.dg) := by rw [HF2.out.cell]; rfl
  have cg1 : (w11).cell? ⟨w7.heap.size, 1, none⟩ = some (.int .i64 F.tn) := by rw [HF2.out.cell]; rfl
  have cg2 : (w11).cell? ⟨w7.heap.size, 2, none⟩ = some (.string F.nm) := by rw [HF2.out.cell]; rfl
  have cg3 : (w11).cell? ⟨w7.heap.size, 3, none⟩ = some (.slice A2 F.zs.length c2) := by rw [HF2.out.cell]; rfl
  have cg4 : (w11).cell? ⟨w7.heap.size, 4, none⟩ = some (.int .i64 F.wd) := by rw [HF2.out.cell]; rfl
  have cg5 : (w11).cell? ⟨w7.heap.size, 5, none⟩ = some (.int .i64 F.lf) := by rw [HF2.out.cell]; rfl
  have cg6 : (w11).cell? ⟨w7.heap.size, 6, none⟩ = some (.int .i64 F.rt) := by rw [HF2.out.cell]; rfl
  go_wp2_with fail
  go_at_call 29; refine (likeCharts_c F A1 A2 c1 c2 hFn _ (by repeat (with_reducible first | exact HI1.out | assumption | refine Ints.drew ?_ | refine Ints.drewN _ ?_ | refine Ints.alloc _ ?_ | refine Ints.step (by assumption) ?_)) (by repeat (with_reducible first | exact HI2.out | assumption | refine Ints.drew ?_ | refine Ints.drewN _ ?_ | refine Ints.alloc _ ?_ | refine Ints.step (by assumption) ?_))).mono ?_; rintro e w12 ⟨rfl, hb12⟩; have hka := Bel.ka HB.out hb12 (by repeat (with_reducible first | exact Below.refl _ _ | refine Bel.alloc ?_ _ | refine Below.drew ?_ | refine Bel.drewN ?_ _)); (try (replace HC := Lib.hid (Blk.step hb12 (Blk.step hka HC.out)))); (try (replace HP := Lib.hid (Blk.step hb12 (Blk.step hka HP.out)))); (try (replace HL := Lib.hid (Blk.step hb12 (Blk.step hka HL.out)))); (try (replace HF := Lib.hid (Blk.step hb12 (Blk.step hka HF.out)))); (try (replace HI := Lib.hid (Ints.step hb12 (Ints.step hka HI.out)))); (try (replace HI1 := Lib.hid (Ints.step hb12 (Ints.step hka HI1.out)))); replace HB := Lib.hid (Bel.step hb12 (Bel.step hka HB.out)); have hsz12 := hb12.size; have hsy12 := hka.size; (try simp only [World.size_alloc, World.size_drew, World.heap_drewN, World.size_setCell] at hsz12 hsy12); clear hka hb12
  clear cp0 cp1 cq0 cq1 cl0 cl1 cm0 cm1 cf0 cg0 cf1 cg1 cf2 cg2 cf3 cg3 cf4 cg4 cf5 cg5 cf6 cg6 HP2 HL2 HF2 HI2
  have cc0 : (w12).cell? ⟨w1.heap.size, 0, none⟩ = some (.int .i64 C.dg) := by rw [HC.out.cell]; rfl
  have cc1 : (w12).cell? ⟨w1.heap.size, 1, none⟩ = some (.int .i64 C.tn) := by rw [HC.out.cell]; rfl
  have cc2 : (w12).cell? ⟨w1.heap.size, 2, none⟩ = some (.string C.nm) := by rw [HC.out.cell]; rfl
  have cc3 : (w12).cell? ⟨w1.heap.size, 3, none⟩ = some (.slice (some ⟨g, 0, none⟩) C.zs.length q) := by rw [HC.out.cell]; rfl
  have cc4 : (w12).cell? ⟨w1.heap.size, 4, none⟩ = some (.int .i64 C.wd) := by rw [HC.out.cell]; rfl
  have cc5 : (w12).cell? ⟨w1.heap.size, 5, none⟩ = some (.int .i64 C.lf) := by rw [HC.out.cell]; rfl
  have cc6 : (w12).cell? ⟨w1.heap.size, 6, none⟩ = some (.int .i64 C.rt) := by rw [HC.out.cell]; rfl
  go_wp2_with fail
  go_at_call 30; refine (IsChart_I C (some ⟨g, 0, none⟩) q hn hm _ (by repeat (with_reducible first | exact HI.out | assumption | refine Ints.drew ?_ | refine Ints.drewN _ ?_ | refine Ints.alloc _ ?_ | refine Ints.step (by assumption) ?_))).mono ?_; rintro e w13 ⟨rfl, hb13⟩; have hka := Bel.ka HB.out hb13 (by repeat (with_reducible first | exact Below.refl _ _ | refine Bel.alloc ?_ _ | refine Below.drew ?_ | refine Bel.drewN ?_ _)); (try (replace HC := Lib.hid (Blk.step hb13 (Blk.step hka HC.out)))); (try (replace HP := Lib.hid (Blk.step hb13 (Blk.step hka HP.out)))); (try (replace HL := Lib.hid (Blk.step hb13 (Blk.step hka HL.out)))); (try (replace HF := Lib.hid (Blk.step hb13 (Blk.step hka HF.out)))); (try (replace HI := Lib.hid (Ints.step hb13 (Ints.step hka HI.out)))); (try (replace HI1 := Lib.hid (Ints.step hb13 (Ints.step hka HI1.out)))); replace HB := Lib.hid (Bel.step hb13 (Bel.step hka HB.out)); have hsz13 := hb13.size; have hsy13 := hka.size; (try simp only [World.size_alloc, World.size_drew, World.heap_drewN, World.size_setCell] at hsz13 hsy13); clear hka hb13
  clear cc0 cc1 cc2 cc3 cc4 cc5 cc6
  clear hsz12 hsy12 hsz13 hsy13
  rcases HCode.out with ⟨hk, hok⟩ | ⟨hk, hok⟩
  rotate_left
  · subst hk
    rw [hok]
    by_cases hkp0 : kp = 0
    · obtain ⟨i1, i2⟩ := HIn.out hkp0
      have j1 : ¬ p1 < l0 := by omega
      have j2 : ¬ l1 < p1 := by omega
      subst hkp0
      have cp0 : (w13).cell? ⟨w2.heap.size, 0, none⟩ = some (.int .i64 p0) := by rw [HP.out.cell]; rfl
      have cp1 : (w13).cell? ⟨w2.heap.size, 1, none⟩ = some (.int .i64 p1) := by rw [HP.out.cell]; rfl
      have cl0 : (w13).cell? ⟨w4.heap.size, 0, none⟩ = some (.int .i64 l0) := by rw [HL.out.cell]; rfl
      have cl1 : (w13).cell? ⟨w4.heap.size, 1, none⟩ = some (.int .i64 l1) := by rw [HL.out.cell]; rfl
      go_wp2
      go_ret
      exact ⟨rfl, HB.out⟩
    · have hkpb : (kp == 0) = false := by simpa using hkp0
      go_wp2
      go_ret
      exact ⟨rfl, HB.out⟩
  subst hk
  rw [hok]
  by_cases hkp0 : kp = 0
  · obtain ⟨i1, i2⟩ := HIn.out hkp0
    have j1 : ¬ p1 < l0 := by omega
    have j2 : ¬ l1 < p1 := by omega
    subst hkp0
    have cp0 : (w13).cell? ⟨w2.heap.size, 0, none⟩ = some (.int .i64 p0) := by rw [HP.out.cell]; rfl
    have cp1 : (w13).cell? ⟨w2.heap.size, 1, none⟩ = some (.int .i64 p1) := by rw [HP.out.cell]; rfl
    have cl0 : (w13).cell? ⟨w4.heap.size, 0, none⟩ = some (.int .i64 l0) := by rw [HL.out.cell]; rfl
    have cl1 : (w13).cell? ⟨w4.heap.size, 1, none⟩ = some (.int .i64 l1) := by rw [HL.out.cell]; rfl
    go_upto_region 20 with (fail)
    clear cp0 cp1 cl0 cl1
    obtain ⟨_, f1, f2, f3⟩ := HTwo.out hok
    obtain ⟨d1, d2⟩ := HMw.out hok
    obtain ⟨g1, g2, g3⟩ := HMf.out hok
    have F3 := Lib.hid f3
    go_wp2_with (first | (refine wpList_load_blkG 30 _ _ (Blk.step (Bel.ka0 HB.out (by repeat (with_reducible first | exact Below.refl _ _ | refine Bel.alloc ?_ _ | refine Below.drew ?_ | refine Bel.drewN ?_ _))) HF.out) Try.underlying30 (by kernel_rfl) rfl rfl (by rfl) ?_))
    go_at_call 23; refine (FlipChart_I F A1 c1 hFn hFm _ (by repeat (with_reducible first | exact HI1.out | assumption | refine Ints.drew ?_ | refine Ints.drewN _ ?_ | refine Ints.alloc _ ?_ | refine Ints.step (by assumption) ?_))).mono ?_; rintro e w14 ⟨A3, c3, rfl, hO3, hb14⟩; have hka := Bel.ka HB.out hb14 (by repeat (with_reducible first | exact Below.refl _ _ | refine Bel.alloc ?_ _ | refine Below.drew ?_ | refine Bel.drewN ?_ _)); (try (replace HC := Lib.hid (Blk.step hb14 (Blk.step hka HC.out)))); (try (replace HF := Lib.hid (Blk.step hb14 (Blk.step hka HF.out)))); (try (replace HI := Lib.hid (Ints.step hb14 (Ints.step hka HI.out)))); (try (replace HI1 := Lib.hid (Ints.step hb14 (Ints.step hka HI1.out)))); replace HB := Lib.hid (Bel.step hb14 (Bel.step hka HB.out)); have hsz14 := hb14.size; have hsy14 := hka.size; (try simp only [World.size_alloc, World.size_drew, World.heap_drewN, World.size_setCell] at hsz14 hsy14); clear hka hb14
    rw [f3] at hO3
    rw [f3, f2]
    have HI3 := Lib.hid hO3.ints
    clear hO3 f3
    have HG := Lib.hid (by have h := Blk.new w14 30 #[.int .i64 C.dg, .int .i64 C.tn, .string C.nm, .slice A3 C.zs.length c3, .int .i64 C.wd, .int .i64 C.lf, .int .i64 C.rt]; (try simp only [World.size_alloc] at h); exact h)
    replace HC := Lib.hid (Blk.alloc (.cells #[.int .i64 C.dg, .int .i64 C.tn, .string C.nm, .slice A3 C.zs.length c3, .int .i64 C.wd, .int .i64 C.lf, .int .i64 C.rt] 30) HC.out)
    replace HF := Lib.hid (Blk.alloc (.cells #[.int .i64 C.dg, .int .i64 C.tn, .string C.nm, .slice A3 C.zs.length c3, .int .i64 C.wd, .int .i64 C.lf, .int .i64 C.rt] 30) HF.out)
    replace HI := Lib.hid (Ints.alloc (.cells #[.int .i64 C.dg, .int .i64 C.tn, .string C.nm, .slice A3 C.zs.length c3, .int .i64 C.wd, .int .i64 C.lf, .int .i64 C.rt] 30) HI.out)
    replace HI1 := Lib.hid (Ints.alloc (.cells #[.int .i64 C.dg, .int .i64 C.tn, .string C.nm, .slice A3 C.zs.length c3, .int .i64 C.wd, .int .i64 C.lf, .int .i64 C.rt] 30) HI1.out)
    replace HI3 := Lib.hid (Ints.alloc (.cells #[.int .i64 C.dg, .int .i64 C.tn, .string C.nm, .slice A3 C.zs.length c3, .int .i64 C.wd, .int .i64 C.lf, .int .i64 C.rt] 30) HI3.out)
    replace HB := Lib.hid (Bel.alloc HB.out (.cells #[.int .i64 C.dg, .int .i64 C.tn, .string C.nm, .slice A3 C.zs.length c3, .int .i64 C.wd, .int .i64 C.lf, .int .i64 C.rt] 30))
    go_wp2_with (first | (refine wpList_load_blkG 30 _ _ (Blk.step (Bel.ka0 HB.out (by repeat (with_reducible first | exact Below.refl _ _ | refine Bel.alloc ?_ _ | refine Below.drew ?_ | refine Bel.drewN ?_ _))) HF.out) Try.underlying30 (by kernel_rfl) rfl rfl (by rfl) ?_))
    go_at_call 25; refine (MiddleColumn_I F A1 c1 hFn hFm _ (by repeat (with_reducible first | exact HI1.out | assumption | refine Ints.drew ?_ | refine Ints.drewN _ ?_ | refine Ints.alloc _ ?_ | refine Ints.step (by assumption) ?_))).mono ?_; rintro e w15 ⟨rfl, hb15⟩; have hka := Bel.ka HB.out hb15 (by repeat (with_reducible first | exact Below.refl _ _ | refine Bel.alloc ?_ _ | refine Below.drew ?_ | refine Bel.drewN ?_ _)); (try (replace HC := Lib.hid (Blk.step hb15 (Blk.step hka HC.out)))); (try (replace HG := Lib.hid (Blk.step hb15 (Blk.step hka HG.out)))); (try (replace HI := Lib.hid (Ints.step hb15 (Ints.step hka HI.out)))); (try (replace HI3 := Lib.hid (Ints.step hb15 (Ints.step hka HI3.out)))); replace HB := Lib.hid (Bel.step hb15 (Bel.step hka HB.out)); have hsz15 := hb15.size; have hsy15 := hka.size; (try simp only [World.size_alloc, World.size_drew, World.heap_drewN, World.size_setCell] at hsz15 hsy15); clear hka hb15
    have e0 : mmC F = 0 := by simp [mmC, f1]
    rw [e0]
    clear e0 f1 f2
    generalize mcL F = xL at *
    generalize mcH F = xH at *
    have cg0 : (w15).cell? ⟨w14.heap.size, 0, none⟩ = some (.int .i64 C.dg) := by rw [HG.out.cell]; rfl
    have cg1 : (w15).cell? ⟨w14.heap.size, 1, none⟩ = some (.int .i64 C.tn) := by rw [HG.out.cell]; rfl
    have cg2 : (w15).cell? ⟨w14.heap.size, 2, none⟩ = some (.string C.nm) := by rw [HG.out.cell]; rfl
    have cg3 : (w15).cell? ⟨w14.heap.size, 3, none⟩ = some (.slice A3 C.zs.length c3) := by rw [HG.out.cell]; rfl
    have cg4 : (w15).cell? ⟨w14.heap.size, 4, none⟩ = some (.int .i64 C.wd) := by rw [HG.out.cell]; rfl
    have cg5 : (w15).cell? ⟨w14.heap.size, 5, none⟩ = some (.int .i64 C.lf) := by rw [HG.out.cell]; rfl
    have cg6 : (w15).cell? ⟨w14.heap.size, 6, none⟩ = some (.int .i64 C.rt) := by rw [HG.out.cell]; rfl
    have cc0 : (w15).cell? ⟨w1.heap.size, 0, none⟩ = some (.int .i64 C.dg) := by rw [HC.out.cell]; rfl
    have cc1 : (w15).cell? ⟨w1.heap.size, 1, none⟩ = some (.int .i64 C.tn) := by rw [HC.out.cell]; rfl
    have cc2 : (w15).cell? ⟨w1.heap.size, 2, none⟩ = some (.string C.nm) := by rw [HC.out.cell]; rfl
    have cc3 : (w15).cell? ⟨w1.heap.size, 3, none⟩ = some (.slice (some ⟨g, 0, none⟩) C.zs.length q) := by rw [HC.out.cell]; rfl
    have cc4 : (w15).cell? ⟨w1.heap.size, 4, none⟩ = some (.int .i64 C.wd) := by rw [HC.out.cell]; rfl
    have cc5 : (w15).cell? ⟨w1.heap.size, 5, none⟩ = some (.int .i64 C.lf) := by rw [HC.out.cell]; rfl
    have cc6 : (w15).cell? ⟨w1.heap.size, 6, none⟩ = some (.int .i64 C.rt) := by rw [HC.out.cell]; rfl
    go_wp2_with fail
    go_at_call 29; refine (likeCharts_c C A3 (some ⟨g, 0, none⟩) c3 q hn _ (by repeat (with_reducible first | exact HI3.out | assumption | refine Ints.drew ?_ | refine Ints.drewN _ ?_ | refine Ints.alloc _ ?_ | refine Ints.step (by assumption) ?_)) (by repeat (with_reducible first | exact HI.out | assumption | refine Ints.drew ?_ | refine Ints.drewN _ ?_ | refine Ints.alloc _ ?_ | refine Ints.step (by assumption) ?_))).mono ?_; rintro e w16 ⟨rfl, hb16⟩; have hka := Bel.ka HB.out hb16 (by repeat (with_reducible first | exact Below.refl _ _ | refine Bel.alloc ?_ _ | refine Below.drew ?_ | refine Bel.drewN ?_ _)); (try (replace HC := Lib.hid (Blk.step hb16 (Blk.step hka HC.out)))); replace HB := Lib.hid (Bel.step hb16 (Bel.step hka HB.out)); have hsz16 := hb16.size; have hsy16 := hka.size; (try simp only [World.size_alloc, World.size_drew, World.heap_drewN, World.size_setCell] at hsz16 hsy16); clear hka hb16
    clear cc0 cg0 cc1 cg1 cc2 cg2 cc3 cg3 cc4 cg4 cc5 cg5 cc6 cg6
    have cc0 : (w16).cell? ⟨w1.heap.size, 0, none⟩ = some (.int .i64 C.dg) := by rw [HC.out.cell]; rfl
    have cc1 : (w16).cell? ⟨w1.heap.size, 1, none⟩ = some (.int .i64 C.tn) := by rw [HC.out.cell]; rfl
    have cc2 : (w16).cell? ⟨w1.heap.size, 2, none⟩ = some (.string C.nm) := by rw [HC.out.cell]; rfl
    have cc3 : (w16).cell? ⟨w1.heap.size, 3, none⟩ = some (.slice (some ⟨g, 0, none⟩) C.zs.length q) := by rw [HC.out.cell]; rfl
    have cc4 : (w16).cell? ⟨w1.heap.size, 4, none⟩ = some (.int .i64 C.wd) := by rw [HC.out.cell]; rfl
    have cc5 : (w16).cell? ⟨w1.heap.size, 5, none⟩ = some (.int .i64 C.lf) := by rw [HC.out.cell]; rfl
    have cc6 : (w16).cell? ⟨w1.heap.size, 6, none⟩ = some (.int .i64 C.rt) := by rw [HC.out.cell]; rfl
    obtain ⟨P, hP⟩ : ∃ P, P = mD * C.lf * C.rt := ⟨_, rfl⟩
    rw [← hP] at g3
    have g4 := hP.symm
    clear hP HMf HMw HTwo HIn HCode
    generalize C.lf = lf at *
    generalize C.rt = rt at *
    go_wp2
    go_ret
    exact ⟨rfl, HB.out⟩
  · have hkpb : (kp == 0) = false := by simpa using hkp0
    go_upto_region 20 with (fail)
    obtain ⟨_, f1, f2, f3⟩ := HTwo.out hok
    obtain ⟨d1, d2⟩ := HMw.out hok
    obtain ⟨g1, g2, g3⟩ := HMf.out hok
    have F3 := Lib.hid f3
    go_wp2_with (first | (refine wpList_load_blkG 30 _ _ (Blk.step (Bel.ka0 HB.out (by repeat (with_reducible first | exact Below.refl _ _ | refine Bel.alloc ?_ _ | refine Below.drew ?_ | refine Bel.drewN ?_ _))) HF.out) Try.underlying30 (by kernel_rfl) rfl rfl (by rfl) ?_))
    go_at_call 23; refine (FlipChart_I F A1 c1 hFn hFm _ (by repeat (with_reducible first | exact HI1.out | assumption | refine Ints.drew ?_ | refine Ints.drewN _ ?_ | refine Ints.alloc _ ?_ | refine Ints.step (by assumption) ?_))).mono ?_; rintro e w14 ⟨A3, c3, rfl, hO3, hb14⟩; have hka := Bel.ka HB.out hb14 (by repeat (with_reducible first | exact Below.refl _ _ | refine Bel.alloc ?_ _ | refine Below.drew ?_ | refine Bel.drewN ?_ _)); (try (replace HC := Lib.hid (Blk.step hb14 (Blk.step hka HC.out)))); (try (replace HF := Lib.hid (Blk.step hb14 (Blk.step hka HF.out)))); (try (replace HI := Lib.hid (Ints.step hb14 (Ints.step hka HI.out)))); (try (replace HI1 := Lib.hid (Ints.step hb14 (Ints.step hka HI1.out)))); replace HB := Lib.hid (Bel.step hb14 (Bel.step hka HB.out)); have hsz14 := hb14.size; have hsy14 := hka.size; (try simp only [World.size_alloc, World.size_drew, World.heap_drewN, World.size_setCell] at hsz14 hsy14); clear hka hb14
    rw [f3] at hO3
    rw [f3, f2]
    have HI3 := Lib.hid hO3.ints
    clear hO3 f3
    have HG := Lib.hid (by have h := Blk.new w14 30 #[.int .i64 C.dg, .int .i64 C.tn, .string C.nm, .slice A3 C.zs.length c3, .int .i64 C.wd, .int .i64 C.lf, .int .i64 C.rt]; (try simp only [World.size_alloc] at h); exact h)
    replace HC := Lib.hid (Blk.alloc (.cells #[.int .i64 C.dg, .int .i64 C.tn, .string C.nm, .slice A3 C.zs.length c3, .int .i64 C.wd, .int .i64 C.lf, .int .i64 C.rt] 30) HC.out)
    replace HF := Lib.hid (Blk.alloc (.cells #[.int .i64 C.dg, .int .i64 C.tn, .string C.nm, .slice A3 C.zs.length c3, .int .i64 C.wd, .int .i64 C.lf, .int .i64 C.rt] 30) HF.out)
    replace HI := Lib.hid (Ints.alloc (.cells #[.int .i64 C.dg, .int .i64 C.tn, .string C.nm, .slice A3 C.zs.length c3, .int .i64 C.wd, .int .i64 C.lf, .int .i64 C.rt] 30) HI.out)
    replace HI1 := Lib.hid (Ints.alloc (.cells #[.int .i64 C.dg, .int .i64 C.tn, .string C.nm, .slice A3 C.zs.length c3, .int .i64 C.wd, .int .i64 C.lf, .int .i64 C.rt] 30) HI1.out)
    replace HI3 := Lib.hid (Ints.alloc (.cells #[.int .i64 C.dg, .int .i64 C.tn, .string C.nm, .slice A3 C.zs.length c3, .int .i64 C.wd, .int .i64 C.lf, .int .i64 C.rt] 30) HI3.out)
    replace HB := Lib.hid (Bel.alloc HB.out (.cells #[.int .i64 C.dg, .int .i64 C.tn, .string C.nm, .slice A3 C.zs.length c3, .int .i64 C.wd, .int .i64 C.lf, .int .i64 C.rt] 30))
    go_wp2_with (first | (refine wpList_load_blkG 30 _ _ (Blk.step (Bel.ka0 HB.out (by repeat (with_reducible first | exact Below.refl _ _ | refine Bel.alloc ?_ _ | refine Below.drew ?_ | refine Bel.drewN ?_ _))) HF.out) Try.underlying30 (by kernel_rfl) rfl rfl (by rfl) ?_))
    go_at_call 25; refine (MiddleColumn_I F A1 c1 hFn hFm _ (by repeat (with_reducible first | exact HI1.out | assumption | refine Ints.drew ?_ | refine Ints.drewN _ ?_ | refine Ints.alloc _ ?_ | refine Ints.step (by assumption) ?_))).mono ?_; rintro e w15 ⟨rfl, hb15⟩; have hka := Bel.ka HB.out hb15 (by repeat (with_reducible first | exact Below.refl _ _ | refine Bel.alloc ?_ _ | refine Below.drew ?_ | refine Bel.drewN ?_ _)); (try (replace HC := Lib.hid (Blk.step hb15 (Blk.step hka HC.out)))); (try (replace HG := Lib.hid (Blk.step hb15 (Blk.step hka HG.out)))); (try (replace HI := Lib.hid (Ints.step hb15 (Ints.step hka HI.out)))); (try (replace HI3 := Lib.hid (Ints.step hb15 (Ints.step hka HI3.out)))); replace HB := Lib.hid (Bel.step hb15 (Bel.step hka HB.out)); have hsz15 := hb15.size; have hsy15 := hka.size; (try simp only [World.size_alloc, World.size_drew, World.heap_drewN, World.size_setCell] at hsz15 hsy15); clear hka hb15
    have e0 : mmC F = 0 := by simp [mmC, f1]
    rw [e0]
    clear e0 f1 f2
    generalize mcL F = xL at *
    generalize mcH F = xH at *
    have cg0 : (w15).cell? ⟨w14.heap.size, 0, none⟩ = some (.int .i64 C.dg) := by rw [HG.out.cell]; rfl
    have cg1 : (w15).cell? ⟨w14.heap.size, 1, none⟩ = some (.int .i64 C.tn) := by rw [HG.out.cell]; rfl
    have cg2 : (w15).cell? ⟨w14.heap.size, 2, none⟩ = some (.string C.nm) := by rw [HG.out.cell]; rfl
    have cg3 : (w15).cell? ⟨w14.heap.size, 3, none⟩ = some (.slice A3 C.zs.length c3) := by rw [HG.out.cell]; rfl
    have cg4 : (w15).cell? ⟨w14.heap.size, 4, none⟩ = some (.int .i64 C.wd) := by rw [HG.out.cell]; rfl
    have cg5 : (w15).cell? ⟨w14.heap.size, 5, none⟩ = some (.int .i64 C.lf) := by rw [HG.out.cell]; rfl
    have cg6 : (w15).cell? ⟨w14.heap.size, 6, none⟩ = some (.int .i64 C.rt) := by rw [HG.out.cell]; rfl
    have cc0 : (w15).cell? ⟨w1.heap.size, 0, none⟩ = some (.int .i64 C.dg) := by rw [HC.out.cell]; rfl
    have cc1 : (w15).cell? ⟨w1.heap.size, 1, none⟩ = some (.int .i64 C.tn) := by rw [HC.out.cell]; rfl
    have cc2 : (w15).cell? ⟨w1.heap.size, 2, none⟩ = some (.string C.nm) := by rw [HC.out.cell]; rfl
    have cc3 : (w15).cell? ⟨w1.heap.size, 3, none⟩ = some (.slice (some ⟨g, 0, none⟩) C.zs.length q) := by rw [HC.out.cell]; rfl
    have cc4 : (w15).cell? ⟨w1.heap.size, 4, none⟩ = some (.int .i64 C.wd) := by rw [HC.out.cell]; rfl
    have cc5 : (w15).cell? ⟨w1.heap.size, 5, none⟩ = some (.int .i64 C.lf) := by rw [HC.out.cell]; rfl
    have cc6 : (w15).cell? ⟨w1.heap.size, 6, none⟩ = some (.int .i64 C.rt) := by rw [HC.out.cell]; rfl
    go_wp2_with fail
    go_at_call 29; refine (likeCharts_c C A3 (some ⟨g, 0, none⟩) c3 q hn _ (by repeat (with_reducible first | exact HI3.out | assumption | refine Ints.drew ?_ | refine Ints.drewN _ ?_ | refine Ints.alloc _ ?_ | refine Ints.step (by assumption) ?_)) (by repeat (with_reducible first | exact HI.out | assumption | refine Ints.drew ?_ | refine Ints.drewN _ ?_ | refine Ints.alloc _ ?_ | refine Ints.step (by assumption) ?_))).mono ?_; rintro e w16 ⟨rfl, hb16⟩; have hka := Bel.ka HB.out hb16 (by repeat (with_reducible first | exact Below.refl _ _ | refine Bel.alloc ?_ _ | refine Below.drew ?_ | refine Bel.drewN ?_ _)); (try (replace HC := Lib.hid (Blk.step hb16 (Blk.step hka HC.out)))); replace HB := Lib.hid (Bel.step hb16 (Bel.step hka HB.out)); have hsz16 := hb16.size; have hsy16 := hka.size; (try simp only [World.size_alloc, World.size_drew, World.heap_drewN, World.size_setCell] at hsz16 hsy16); clear hka hb16
    clear cc0 cg0 cc1 cg1 cc2 cg2 cc3 cg3 cc4 cg4 cc5 cg5 cc6 cg6
    have cc0 : (w16).cell? ⟨w1.heap.size, 0, none⟩ = some (.int .i64 C.dg) := by rw [HC.out.cell]; rfl
    have cc1 : (w16).cell? ⟨w1.heap.size, 1, none⟩ = some (.int .i64 C.tn) := by rw [HC.out.cell]; rfl
    have cc2 : (w16).cell? ⟨w1.heap.size, 2, none⟩ = some (.string C.nm) := by rw [HC.out.cell]; rfl
    have cc3 : (w16).cell? ⟨w1.heap.size, 3, none⟩ = some (.slice (some ⟨g, 0, none⟩) C.zs.length q) := by rw [HC.out.cell]; rfl
    have cc4 : (w16).cell? ⟨w1.heap.size, 4, none⟩ = some (.int .i64 C.wd) := by rw [HC.out.cell]; rfl
    have cc5 : (w16).cell? ⟨w1.heap.size, 5, none⟩ = some (.int .i64 C.lf) := by rw [HC.out.cell]; rfl
    have cc6 : (w16).cell? ⟨w1.heap.size, 6, none⟩ = some (.int .i64 C.rt) := by rw [HC.out.cell]; rfl
    obtain ⟨P, hP⟩ : ∃ P, P = mD * C.lf * C.rt := ⟨_, rfl⟩
    rw [← hP] at g3
    have g4 := hP.symm
    clear hP HMf HMw HTwo HIn HCode
    generalize C.lf = lf at *
    generalize C.rt = rt at *
    go_wp2
    go_ret
    exact ⟨rfl, HB.out⟩
end Go.Proofs.Ytpmcgicopogbhaa
