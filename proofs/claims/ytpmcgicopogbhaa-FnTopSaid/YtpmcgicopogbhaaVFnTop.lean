/- The statement FnTop, walked. No conditions. -/
import Derived.Test.YtpmcgicopogbhaaProg
import Derived.Test.YtpmcgicopogbhaaBase
import Derived.Test.YtpmcgicopogbhaaRw
import Derived.Test.YtpmcgicopogbhaaRg
import Derived.Test.YtpmcgicopogbhaaL01
import Derived.Test.YtpmcgicopogbhaaCp
import Derived.Test.YtpmcgicopogbhaaCm
import Derived.Test.YtpmcgicopogbhaaL18
import Derived.Test.YtpmcgicopogbhaaL23
import Derived.Test.YtpmcgicopogbhaaL03
import Derived.Test.YtpmcgicopogbhaaL04
import Derived.Test.YtpmcgicopogbhaaL23d
import Derived.Test.YtpmcgicopogbhaaL23e
import Derived.Test.YtpmcgicopogbhaaL23f
import Derived.Test.YtpmcgicopogbhaaL24
import Derived.Test.YtpmcgicopogbhaaL24b
import Derived.Test.YtpmcgicopogbhaaL24c
import Derived.Test.YtpmcgicopogbhaaL24d
import Derived.Test.YtpmcgicopogbhaaL24f
import Derived.Test.YtpmcgicopogbhaaL24g
import Derived.Test.YtpmcgicopogbhaaL24r
import Derived.Test.YtpmcgicopogbhaaM24
import Derived.Test.YtpmcgicopogbhaaE24
import Derived.Test.YtpmcgicopogbhaaE24f
import Derived.Test.YtpmcgicopogbhaaE23
import Derived.Test.YtpmcgicopogbhaaL27o
import Derived.Test.YtpmcgicopogbhaaL27a
import Derived.Test.YtpmcgicopogbhaaL27b
import Derived.Test.YtpmcgicopogbhaaL27c
import Derived.Test.YtpmcgicopogbhaaL27m
import Derived.Test.YtpmcgicopogbhaaL27t
import Derived.Test.YtpmcgicopogbhaaL27v
import Derived.Test.YtpmcgicopogbhaaP27
import Derived.Test.YtpmcgicopogbhaaD00
import Derived.Test.YtpmcgicopogbhaaD01
import Derived.Test.YtpmcgicopogbhaaD27
import Derived.Test.YtpmcgicopogbhaaD27b
import Derived.Test.YtpmcgicopogbhaaD27c
import Derived.WalkKit
import Derived.WalkSpells
import Derived.WalkLawsBesides
import Derived.Lib.Hide
import Derived.Deep.QuietTactic
import Derived.BigQuiet
import Derived.Deep.Draws
import Derived.Deep.RegionHeld3
import Derived.Deep.Cut
namespace Go.Proofs.Ytpmcgicopogbhaa
open Go.RowKit
set_option linter.unusedVariables false
set_option linter.unusedSimpArgs false
set_option maxRecDepth 50000 in
set_option maxHeartbeats 32000000 in
theorem FnTop_w (w : World) (A : Option Addr) (c : Nat) (zs : List Int) (hl : zs.length ≤ 9223372036854775807) (hA : Byts w A zs) :
    Calls Try.prog 3 #[.slice A zs.length c] w fun e w' => e = .returned (.bool true) ∧ Below w.heap.size w w' := by
  have HB := Lib.hid (Below.refl w.heap.size w)
  by_cases hz : zs.length ≤ 4096
  rotate_left
  · go_enter Try.func3, Try.ntmps3
    go_wp2_with fail
    go_at_call 8; refine (big_yes A c zs.length (by omega) _).mono ?_; rintro e w' ⟨rfl, rfl⟩
    go_wp2
    go_ret
    exact ⟨rfl, by first | exact HB.out | exact Bel.alloc HB.out _⟩
  have HA := Lib.hid hA
  clear hA hl
  go_enter Try.func3, Try.ntmps3
  go_wp2_with fail
  go_at_call 8; refine (big_no A c zs.length hz _).mono ?_; rintro e w' ⟨rfl, rfl⟩
  go_wp2_with fail
  go_at_call 9; refine (DrawTestPair_c A c zs hz _ HA.out).mono ?_; rintro e w1 ⟨R, g, q, ud, ut, vd, vt, rfl, hn0, hm0, hO, hb1⟩; have hka := Bel.ka HB.out hb1 (by repeat (with_reducible first | exact Below.refl _ _ | refine Bel.alloc ?_ _ | refine Below.drew ?_ | refine Bel.drewN ?_ _)); replace HB := Lib.hid (Bel.step hb1 (Bel.step hka HB.out)); have hsz1 := hb1.size; have hsy1 := hka.size; (try simp only [World.size_alloc, World.size_drew, World.heap_drewN, World.size_setCell] at hsz1 hsy1); clear hka hb1
  have HI := Lib.hid hO.ints
  have hn : R.ch.zs.length ≤ 1048576 := by omega
  have hm : R.ch.nm.size ≤ 1048576 := by omega
  clear hO hn0 hm0 HA
  have HR := Lib.hid (by have h := Blk.new w1 32 #[.int .i64 R.ch.dg, .int .i64 R.ch.tn, .string R.ch.nm, .slice (some ⟨g, 0, none⟩) R.ch.zs.length q, .int .i64 R.ch.wd, .int .i64 R.ch.lf, .int .i64 R.ch.rt, .int .i64 R.ad, .int .i64 R.at_, .int .i64 R.bd, .int .i64 R.bt, .int .i64 R.cd, .int .i64 R.ct, .int .i64 R.dd, .int .i64 R.dt, .int .i64 R.ey, .int .i64 R.bo]; (try simp only [World.size_alloc] at h); exact h)
  replace HI := Lib.hid (Ints.alloc (.cells #[.int .i64 R.ch.dg, .int .i64 R.ch.tn, .string R.ch.nm, .slice (some ⟨g, 0, none⟩) R.ch.zs.length q, .int .i64 R.ch.wd, .int .i64 R.ch.lf, .int .i64 R.ch.rt, .int .i64 R.ad, .int .i64 R.at_, .int .i64 R.bd, .int .i64 R.bt, .int .i64 R.cd, .int .i64 R.ct, .int .i64 R.dd, .int .i64 R.dt, .int .i64 R.ey, .int .i64 R.bo] 32) HI.out)
  replace HB := Lib.hid (Bel.alloc HB.out (.cells #[.int .i64 R.ch.dg, .int .i64 R.ch.tn, .string R.ch.nm, .slice (some ⟨g, 0, none⟩) R.ch.zs.length q, .int .i64 R.ch.wd, .int .i64 R.ch.lf, .int .i64 R.ch.rt, .int .i64 R.ad, .int .i64 R.at_, .int .i64 R.bd, .int .i64 R.bt, .int .i64 R.cd, .int .i64 R.ct, .int .i64 R.dd, .int .i64 R.dt, .int .i64 R.ey, .int .i64 R.bo] 32))
  have HU := Lib.hid (by have h := Blk.new (w1.alloc (.cells #[.int .i64 R.ch.dg, .int .i64 R.ch.tn, .string R.ch.nm, .slice (some ⟨g, 0, none⟩) R.ch.zs.length q, .int .i64 R.ch.wd, .int .i64 R.ch.lf, .int .i64 R.ch.rt, .int .i64 R.ad, .int .i64 R.at_, .int .i64 R.bd, .int .i64 R.bt, .int .i64 R.cd, .int .i64 R.ct, .int .i64 R.dd, .int .i64 R.dt, .int .i64 R.ey, .int .i64 R.bo] 32)) 25 #[.int .i64 ud, .int .i64 ut]; (try simp only [World.size_alloc] at h); exact h)
  replace HR := Lib.hid (Blk.alloc (.cells #[.int .i64 ud, .int .i64 ut] 25) HR.out)
  replace HI := Lib.hid (Ints.alloc (.cells #[.int .i64 ud, .int .i64 ut] 25) HI.out)
  replace HB := Lib.hid (Bel.alloc HB.out (.cells #[.int .i64 ud, .int .i64 ut] 25))
  have HV := Lib.hid (by have h := Blk.new ((w1.alloc (.cells #[.int .i64 R.ch.dg, .int .i64 R.ch.tn, .string R.ch.nm, .slice (some ⟨g, 0, none⟩) R.ch.zs.length q, .int .i64 R.ch.wd, .int .i64 R.ch.lf, .int .i64 R.ch.rt, .int .i64 R.ad, .int .i64 R.at_, .int .i64 R.bd, .int .i64 R.bt, .int .i64 R.cd, .int .i64 R.ct, .int .i64 R.dd, .int .i64 R.dt, .int .i64 R.ey, .int .i64 R.bo] 32)).alloc (.cells #[.int .i64 ud, .int .i64 ut] 25)) 25 #[.int .i64 vd, .int .i64 vt]; (try simp only [World.size_alloc] at h); exact h)
  replace HR := Lib.hid (Blk.alloc (.cells #[.int .i64 vd, .int .i64 vt] 25) HR.out)
  replace HU := Lib.hid (Blk.alloc (.cells #[.int .i64 vd, .int .i64 vt] 25) HU.out)
  replace HI := Lib.hid (Ints.alloc (.cells #[.int .i64 vd, .int .i64 vt] 25) HI.out)
  replace HB := Lib.hid (Bel.alloc HB.out (.cells #[.int .i64 vd, .int .i64 vt] 25))
  go_wp2_with (first | (refine wpList_load_blkG 32 _ _ (Blk.step (Bel.ka0 HB.out (by repeat (with_reducible first | exact Below.refl _ _ | refine Bel.alloc ?_ _ | refine Below.drew ?_ | refine Bel.drewN ?_ _))) HR.out) Try.underlying32 (by kernel_rfl) rfl rfl (by rfl) ?_) | (refine wpList_load_blkG 25 _ _ (Blk.step (Bel.ka0 HB.out (by repeat (with_reducible first | exact Below.refl _ _ | refine Bel.alloc ?_ _ | refine Below.drew ?_ | refine Bel.drewN ?_ _))) HU.out) Try.underlying25 (by kernel_rfl) rfl rfl (by rfl) ?_) | (refine wpList_load_blkG 25 _ _ (Blk.step (Bel.ka0 HB.out (by repeat (with_reducible first | exact Below.refl _ _ | refine Bel.alloc ?_ _ | refine Below.drew ?_ | refine Bel.drewN ?_ _))) HV.out) Try.underlying25 (by kernel_rfl) rfl rfl (by rfl) ?_))
  go_at_call 10; refine (TestPair_I R (some ⟨g, 0, none⟩) q ud ut vd vt hn hm _ (by repeat (with_reducible first | exact HI.out | assumption | refine Ints.drew ?_ | refine Ints.drewN _ ?_ | refine Ints.alloc _ ?_ | refine Ints.step (by assumption) ?_))).mono ?_; rintro e w2 ⟨rfl, hb2⟩; have hka := Bel.ka HB.out hb2 (by repeat (with_reducible first | exact Below.refl _ _ | refine Bel.alloc ?_ _ | refine Below.drew ?_ | refine Bel.drewN ?_ _)); (try (replace HR := Lib.hid (Blk.step hb2 (Blk.step hka HR.out)))); (try (replace HU := Lib.hid (Blk.step hb2 (Blk.step hka HU.out)))); (try (replace HV := Lib.hid (Blk.step hb2 (Blk.step hka HV.out)))); (try (replace HI := Lib.hid (Ints.step hb2 (Ints.step hka HI.out)))); replace HB := Lib.hid (Bel.step hb2 (Bel.step hka HB.out)); have hsz2 := hb2.size; have hsy2 := hka.size; (try simp only [World.size_alloc, World.size_drew, World.heap_drewN, World.size_setCell] at hsz2 hsy2); clear hka hb2
  obtain ⟨kt, hkt⟩ : ∃ k, k = tpC R ud ut vd vt := ⟨_, rfl⟩
  obtain ⟨bt, hbt⟩ : ∃ k, k = tpB R ud ut vd vt := ⟨_, rfl⟩
  rw [← hkt, ← hbt]
  have HT := Lib.hid (And.intro hkt hbt)
  clear hkt hbt
  go_wp2_with (first | (refine wpList_load_blkG 32 _ _ (Blk.step (Bel.ka0 HB.out (by repeat (with_reducible first | exact Below.refl _ _ | refine Bel.alloc ?_ _ | refine Below.drew ?_ | refine Bel.drewN ?_ _))) HR.out) Try.underlying32 (by kernel_rfl) rfl rfl (by rfl) ?_) | (refine wpList_load_blkG 25 _ _ (Blk.step (Bel.ka0 HB.out (by repeat (with_reducible first | exact Below.refl _ _ | refine Bel.alloc ?_ _ | refine Below.drew ?_ | refine Bel.drewN ?_ _))) HU.out) Try.underlying25 (by kernel_rfl) rfl rfl (by rfl) ?_) | (refine wpList_load_blkG 25 _ _ (Blk.step (Bel.ka0 HB.out (by repeat (with_reducible first | exact Below.refl _ _ | refine Bel.alloc ?_ _ | refine Below.drew ?_ | refine Bel.drewN ?_ _))) HV.out) Try.underlying25 (by kernel_rfl) rfl rfl (by rfl) ?_))
  go_at_call 11; refine (TestPair_S R (some ⟨g, 0, none⟩) q ud ut vd vt hn hm _ (by repeat (with_reducible first | exact HI.out | assumption | refine Ints.drew ?_ | refine Ints.drewN _ ?_ | refine Ints.alloc _ ?_ | refine Ints.step (by assumption) ?_))).mono ?_; rintro e w3 ⟨rfl, hb3⟩; have hka := Bel.ka HB.out hb3 (by repeat (with_reducible first | exact Below.refl _ _ | refine Bel.alloc ?_ _ | refine Below.drew ?_ | refine Bel.drewN ?_ _)); (try (replace HR := Lib.hid (Blk.step hb3 (Blk.step hka HR.out)))); (try (replace HU := Lib.hid (Blk.step hb3 (Blk.step hka HU.out)))); (try (replace HV := Lib.hid (Blk.step hb3 (Blk.step hka HV.out)))); (try (replace HI := Lib.hid (Ints.step hb3 (Ints.step hka HI.out)))); replace HB := Lib.hid (Bel.step hb3 (Bel.step hka HB.out)); have hsz3 := hb3.size; have hsy3 := hka.size; (try simp only [World.size_alloc, World.size_drew, World.heap_drewN, World.size_setCell] at hsz3 hsy3); clear hka hb3
  rw [← HT.out.1, ← HT.out.2]
  go_wp2_with (first | (refine wpList_load_blkG 32 _ _ (Blk.step (Bel.ka0 HB.out (by repeat (with_reducible first | exact Below.refl _ _ | refine Bel.alloc ?_ _ | refine Below.drew ?_ | refine Bel.drewN ?_ _))) HR.out) Try.underlying32 (by kernel_rfl) rfl rfl (by rfl) ?_))
  go_at_call 12; refine (IsKept_I R (some ⟨g, 0, none⟩) q hn hm _ (by repeat (with_reducible first | exact HI.out | assumption | refine Ints.drew ?_ | refine Ints.drewN _ ?_ | refine Ints.alloc _ ?_ | refine Ints.step (by assumption) ?_))).mono ?_; rintro e w4 ⟨rfl, hb4⟩; have hka := Bel.ka HB.out hb4 (by repeat (with_reducible first | exact Below.refl _ _ | refine Bel.alloc ?_ _ | refine Below.drew ?_ | refine Bel.drewN ?_ _)); (try (replace HR := Lib.hid (Blk.step hb4 (Blk.step hka HR.out)))); (try (replace HU := Lib.hid (Blk.step hb4 (Blk.step hka HU.out)))); (try (replace HV := Lib.hid (Blk.step hb4 (Blk.step hka HV.out)))); (try (replace HI := Lib.hid (Ints.step hb4 (Ints.step hka HI.out)))); replace HB := Lib.hid (Bel.step hb4 (Bel.step hka HB.out)); have hsz4 := hb4.size; have hsy4 := hka.size; (try simp only [World.size_alloc, World.size_drew, World.heap_drewN, World.size_setCell] at hsz4 hsy4); clear hka hb4
  obtain ⟨kk, hkk⟩ : ∃ k, k = ikC R := ⟨_, rfl⟩
  obtain ⟨bk, hbk⟩ : ∃ k, k = ikB R := ⟨_, rfl⟩
  rw [← hkk, ← hbk]
  have HK := Lib.hid (And.intro hkk hbk)
  clear hkk hbk
  go_wp2_with (first | (refine wpList_load_blkG 32 _ _ (Blk.step (Bel.ka0 HB.out (by repeat (with_reducible first | exact Below.refl _ _ | refine Bel.alloc ?_ _ | refine Below.drew ?_ | refine Bel.drewN ?_ _))) HR.out) Try.underlying32 (by kernel_rfl) rfl rfl (by rfl) ?_))
  go_at_call 13; refine (IsKept_S R (some ⟨g, 0, none⟩) q hn hm _ (by repeat (with_reducible first | exact HI.out | assumption | refine Ints.drew ?_ | refine Ints.drewN _ ?_ | refine Ints.alloc _ ?_ | refine Ints.step (by assumption) ?_))).mono ?_; rintro e w5 ⟨rfl, hb5⟩; have hka := Bel.ka HB.out hb5 (by repeat (with_reducible first | exact Below.refl _ _ | refine Bel.alloc ?_ _ | refine Below.drew ?_ | refine Bel.drewN ?_ _)); (try (replace HR := Lib.hid (Blk.step hb5 (Blk.step hka HR.out)))); (try (replace HU := Lib.hid (Blk.step hb5 (Blk.step hka HU.out)))); (try (replace HV := Lib.hid (Blk.step hb5 (Blk.step hka HV.out)))); (try (replace HI := Lib.hid (Ints.step hb5 (Ints.step hka HI.out)))); replace HB := Lib.hid (Bel.step hb5 (Bel.step hka HB.out)); have hsz5 := hb5.size; have hsy5 := hka.size; (try simp only [World.size_alloc, World.size_drew, World.heap_drewN, World.size_setCell] at hsz5 hsy5); clear hka hb5
  rw [← HK.out.1, ← HK.out.2]
  clear hsz1 hsy1 hsz2 hsy2 hsz3 hsy3 hsz4 hsy4 hsz5 hsy5
  by_cases hkk : kk = 0
  rotate_left
  · have hkb : (kk == 0) = false := by simpa using hkk
    go_wp2
    all_goals (go_ret; exact ⟨rfl, by first | exact HB.out | exact Bel.alloc HB.out _⟩)
  by_cases hkt : kt = 0
  rotate_left
  · have hkb : (kt == 0) = false := by simpa using hkt
    subst hkk
    go_wp2
    all_goals (go_ret; exact ⟨rfl, by first | exact HB.out | exact Bel.alloc HB.out _⟩)
  have htp : tpC R ud ut vd vt = 0 := by rw [← HT.out.1]; exact hkt
  have hf := tp_facts htp
  have HF := Lib.hid hf
  have HTP := Lib.hid htp
  have hkp : bk = true → bt = true := fun h => by rw [HT.out.2]; exact kept_passes htp (by rw [← HK.out.2]; exact h)
  have HKP := Lib.hid hkp
  clear hf htp hkp
  subst hkk hkt
  have hbb : (bk && !bt) = false := by
    have := HKP.out
    cases bk with
    | false => rfl
    | true => rw [this rfl]; rfl
  have HBB := Lib.hid hbb
  clear hbb
  cases bk with
  | false =>
    have r0 : (w5).cell? ⟨w1.heap.size, 0, none⟩ = some (.int .i64 R.ch.dg) := by rw [HR.out.cell]; rfl
    have r1 : (w5).cell? ⟨w1.heap.size, 1, none⟩ = some (.int .i64 R.ch.tn) := by rw [HR.out.cell]; rfl
    have r2 : (w5).cell? ⟨w1.heap.size, 2, none⟩ = some (.string R.ch.nm) := by rw [HR.out.cell]; rfl
    have r3 : (w5).cell? ⟨w1.heap.size, 3, none⟩ = some (.slice (some ⟨g, 0, none⟩) R.ch.zs.length q) := by rw [HR.out.cell]; rfl
    have r4 : (w5).cell? ⟨w1.heap.size, 4, none⟩ = some (.int .i64 R.ch.wd) := by rw [HR.out.cell]; rfl
    have r5 : (w5).cell? ⟨w1.heap.size, 5, none⟩ = some (.int .i64 R.ch.lf) := by rw [HR.out.cell]; rfl
    have r6 : (w5).cell? ⟨w1.heap.size, 6, none⟩ = some (.int .i64 R.ch.rt) := by rw [HR.out.cell]; rfl
    have r15 : (w5).cell? ⟨w1.heap.size, 15, none⟩ = some (.int .i64 R.ey) := by rw [HR.out.cell]; rfl
    have u0 : (w5).cell? ⟨w1.heap.size + 1, 0, none⟩ = some (.int .i64 ud) := by rw [HU.out.cell]; rfl
    have u1 : (w5).cell? ⟨w1.heap.size + 1, 1, none⟩ = some (.int .i64 ut) := by rw [HU.out.cell]; rfl
    have v0 : (w5).cell? ⟨w1.heap.size + 1 + 1, 0, none⟩ = some (.int .i64 vd) := by rw [HV.out.cell]; rfl
    have v1 : (w5).cell? ⟨w1.heap.size + 1 + 1, 1, none⟩ = some (.int .i64 vt) := by rw [HV.out.cell]; rfl
    go_wp2_with fail
    go_at_call 14; refine (ReadChart_I R.ch (some ⟨g, 0, none⟩) q ud ut vd vt R.ey hn hm _ (by repeat (with_reducible first | exact HI.out | assumption | refine Ints.drew ?_ | refine Ints.drewN _ ?_ | refine Ints.alloc _ ?_ | refine Ints.step (by assumption) ?_))).mono ?_; rintro e w6 ⟨rfl, hb6⟩; have hka := Bel.ka HB.out hb6 (by repeat (with_reducible first | exact Below.refl _ _ | refine Bel.alloc ?_ _ | refine Below.drew ?_ | refine Bel.drewN ?_ _)); (try (replace HR := Lib.hid (Blk.step hb6 (Blk.step hka HR.out)))); (try (replace HU := Lib.hid (Blk.step hb6 (Blk.step hka HU.out)))); (try (replace HV := Lib.hid (Blk.step hb6 (Blk.step hka HV.out)))); (try (replace HI := Lib.hid (Ints.step hb6 (Ints.step hka HI.out)))); replace HB := Lib.hid (Bel.step hb6 (Bel.step hka HB.out)); have hsz6 := hb6.size; have hsy6 := hka.size; (try simp only [World.size_alloc, World.size_drew, World.heap_drewN, World.size_setCell] at hsz6 hsy6); clear hka hb6
    clear r0 r1 r2 r3 r4 r5 r6 r15 u0 u1 v0 v1
    rw [HF.out.rq]
    obtain ⟨a0, ha0⟩ : ∃ k, k = rqL R.ch ud ut vd vt R.ey := ⟨_, rfl⟩
    obtain ⟨a1, ha1⟩ : ∃ k, k = rqH R.ch ud ut vd vt R.ey := ⟨_, rfl⟩
    rw [← ha0, ← ha1]
    have HAV := Lib.hid (And.intro ha0 ha1)
    clear ha0 ha1
    have HA1 := Lib.hid (by have h := Blk.new w6 39 #[.int .i64 a0, .int .i64 a1]; (try simp only [World.size_alloc] at h); exact h)
    replace HR := Lib.hid (Blk.alloc (.cells #[.int .i64 a0, .int .i64 a1] 39) HR.out)
    replace HU := Lib.hid (Blk.alloc (.cells #[.int .i64 a0, .int .i64 a1] 39) HU.out)
    replace HV := Lib.hid (Blk.alloc (.cells #[.int .i64 a0, .int .i64 a1] 39) HV.out)
    replace HI := Lib.hid (Ints.alloc (.cells #[.int .i64 a0, .int .i64 a1] 39) HI.out)
    replace HB := Lib.hid (Bel.alloc HB.out (.cells #[.int .i64 a0, .int .i64 a1] 39))
    have r0 : (w6.alloc (.cells #[.int .i64 a0, .int .i64 a1] 39)).cell? ⟨w1.heap.size, 0, none⟩ = some (.int .i64 R.ch.dg) := by rw [HR.out.cell]; rfl
    have r1 : (w6.alloc (.cells #[.int .i64 a0, .int .i64 a1] 39)).cell? ⟨w1.heap.size, 1, none⟩ = some (.int .i64 R.ch.tn) := by rw [HR.out.cell]; rfl
    have r2 : (w6.alloc (.cells #[.int .i64 a0, .int .i64 a1] 39)).cell? ⟨w1.heap.size, 2, none⟩ = some (.string R.ch.nm) := by rw [HR.out.cell]; rfl
    have r3 : (w6.alloc (.cells #[.int .i64 a0, .int .i64 a1] 39)).cell? ⟨w1.heap.size, 3, none⟩ = some (.slice (some ⟨g, 0, none⟩) R.ch.zs.length q) := by rw [HR.out.cell]; rfl
    have u0 : (w6.alloc (.cells #[.int .i64 a0, .int .i64 a1] 39)).cell? ⟨w1.heap.size + 1, 0, none⟩ = some (.int .i64 ud) := by rw [HU.out.cell]; rfl
    have u1 : (w6.alloc (.cells #[.int .i64 a0, .int .i64 a1] 39)).cell? ⟨w1.heap.size + 1, 1, none⟩ = some (.int .i64 ut) := by rw [HU.out.cell]; rfl
    have v0 : (w6.alloc (.cells #[.int .i64 a0, .int .i64 a1] 39)).cell? ⟨w1.heap.size + 1 + 1, 0, none⟩ = some (.int .i64 vd) := by rw [HV.out.cell]; rfl
    have v1 : (w6.alloc (.cells #[.int .i64 a0, .int .i64 a1] 39)).cell? ⟨w1.heap.size + 1 + 1, 1, none⟩ = some (.int .i64 vt) := by rw [HV.out.cell]; rfl
    go_wp2_with fail
    go_at_call 15; refine (FormulaLog_I R.ch (some ⟨g, 0, none⟩) q (some ⟨w6.heap.size + 1, 0, none⟩) ud ut vd vt 2 HF.out.ch HF.out.u HF.out.v hn _ (by repeat (with_reducible first | exact HI.out | assumption | refine Ints.drew ?_ | refine Ints.drewN _ ?_ | refine Ints.alloc _ ?_ | refine Ints.step (by assumption) ?_)) (by have h := Prs.mk2 (w6.alloc (.cells #[.int .i64 a0, .int .i64 a1] 39)) 25 ud ut vd vt; simp only [World.size_alloc] at h; exact h)).mono ?_; rintro e w7 ⟨rfl, hb7⟩; have hka := Bel.ka HB.out hb7 (by repeat (with_reducible first | exact Below.refl _ _ | refine Bel.alloc ?_ _ | refine Below.drew ?_ | refine Bel.drewN ?_ _)); (try (replace HR := Lib.hid (Blk.step hb7 (Blk.step hka HR.out)))); (try (replace HU := Lib.hid (Blk.step hb7 (Blk.step hka HU.out)))); (try (replace HV := Lib.hid (Blk.step hb7 (Blk.step hka HV.out)))); (try (replace HA1 := Lib.hid (Blk.step hb7 (Blk.step hka HA1.out)))); (try (replace HI := Lib.hid (Ints.step hb7 (Ints.step hka HI.out)))); replace HB := Lib.hid (Bel.step hb7 (Bel.step hka HB.out)); have hsz7 := hb7.size; have hsy7 := hka.size; (try simp only [World.size_alloc, World.size_drew, World.heap_drewN, World.size_setCell] at hsz7 hsy7); clear hka hb7
    clear r0 r1 r2 r3 u0 u1 v0 v1
    obtain ⟨b0, hb0⟩ : ∃ k, k = fmL R.ch ud ut vd vt := ⟨_, rfl⟩
    obtain ⟨b1, hb1⟩ : ∃ k, k = fmH R.ch ud ut vd vt := ⟨_, rfl⟩
    rw [← hb0, ← hb1]
    have HBV := Lib.hid (And.intro hb0 hb1)
    clear hb0 hb1
    have HB1 := Lib.hid (by have h := Blk.new w7 39 #[.int .i64 b0, .int .i64 b1]; (try simp only [World.size_alloc] at h); exact h)
    replace HR := Lib.hid (Blk.alloc (.cells #[.int .i64 b0, .int .i64 b1] 39) HR.out)
    replace HU := Lib.hid (Blk.alloc (.cells #[.int .i64 b0, .int .i64 b1] 39) HU.out)
    replace HV := Lib.hid (Blk.alloc (.cells #[.int .i64 b0, .int .i64 b1] 39) HV.out)
    replace HA1 := Lib.hid (Blk.alloc (.cells #[.int .i64 b0, .int .i64 b1] 39) HA1.out)
    replace HI := Lib.hid (Ints.alloc (.cells #[.int .i64 b0, .int .i64 b1] 39) HI.out)
    replace HB := Lib.hid (Bel.alloc HB.out (.cells #[.int .i64 b0, .int .i64 b1] 39))
    have i1 : a0 ≤ b0 := by rw [HAV.out.1, HBV.out.1]; exact HF.out.lo
    have i2 : b1 ≤ a1 := by rw [HAV.out.2, HBV.out.2]; exact HF.out.hi
    have ca0 : (w7.alloc (.cells #[.int .i64 b0, .int .i64 b1] 39)).cell? ⟨w6.heap.size, 0, none⟩ = some (.int .i64 a0) := by rw [HA1.out.cell]; rfl
    have ca1 : (w7.alloc (.cells #[.int .i64 b0, .int .i64 b1] 39)).cell? ⟨w6.heap.size, 1, none⟩ = some (.int .i64 a1) := by rw [HA1.out.cell]; rfl
    have cb0 : (w7.alloc (.cells #[.int .i64 b0, .int .i64 b1] 39)).cell? ⟨w7.heap.size, 0, none⟩ = some (.int .i64 b0) := by rw [HB1.out.cell]; rfl
    have cb1 : (w7.alloc (.cells #[.int .i64 b0, .int .i64 b1] 39)).cell? ⟨w7.heap.size, 1, none⟩ = some (.int .i64 b1) := by rw [HB1.out.cell]; rfl
    go_wp2_with fail
    go_at_call 16; refine (inside_c b0 b1 a0 a1 i1 i2 _).mono ?_; rintro e w8 ⟨rfl, hb8⟩; have hka := Bel.ka HB.out hb8 (by repeat (with_reducible first | exact Below.refl _ _ | refine Bel.alloc ?_ _ | refine Below.drew ?_ | refine Bel.drewN ?_ _)); (try (replace HR := Lib.hid (Blk.step hb8 (Blk.step hka HR.out)))); (try (replace HU := Lib.hid (Blk.step hb8 (Blk.step hka HU.out)))); (try (replace HV := Lib.hid (Blk.step hb8 (Blk.step hka HV.out)))); (try (replace HA1 := Lib.hid (Blk.step hb8 (Blk.step hka HA1.out)))); (try (replace HB1 := Lib.hid (Blk.step hb8 (Blk.step hka HB1.out)))); (try (replace HI := Lib.hid (Ints.step hb8 (Ints.step hka HI.out)))); replace HB := Lib.hid (Bel.step hb8 (Bel.step hka HB.out)); have hsz8 := hb8.size; have hsy8 := hka.size; (try simp only [World.size_alloc, World.size_drew, World.heap_drewN, World.size_setCell] at hsz8 hsy8); clear hka hb8
    clear ca0 ca1 cb0 cb1
    go_wp2
    all_goals (go_ret; exact ⟨rfl, by first | exact HB.out | exact Bel.alloc HB.out _⟩)
  | true =>
    obtain rfl : bt = true := HKP.out rfl
    have r0 : (w5).cell? ⟨w1.heap.size, 0, none⟩ = some (.int .i64 R.ch.dg) := by rw [HR.out.cell]; rfl
    have r1 : (w5).cell? ⟨w1.heap.size, 1, none⟩ = some (.int .i64 R.ch.tn) := by rw [HR.out.cell]; rfl
    have r2 : (w5).cell? ⟨w1.heap.size, 2, none⟩ = some (.string R.ch.nm) := by rw [HR.out.cell]; rfl
    have r3 : (w5).cell? ⟨w1.heap.size, 3, none⟩ = some (.slice (some ⟨g, 0, none⟩) R.ch.zs.length q) := by rw [HR.out.cell]; rfl
    have r4 : (w5).cell? ⟨w1.heap.size, 4, none⟩ = some (.int .i64 R.ch.wd) := by rw [HR.out.cell]; rfl
    have r5 : (w5).cell? ⟨w1.heap.size, 5, none⟩ = some (.int .i64 R.ch.lf) := by rw [HR.out.cell]; rfl
    have r6 : (w5).cell? ⟨w1.heap.size, 6, none⟩ = some (.int .i64 R.ch.rt) := by rw [HR.out.cell]; rfl
    have r15 : (w5).cell? ⟨w1.heap.size, 15, none⟩ = some (.int .i64 R.ey) := by rw [HR.out.cell]; rfl
    have u0 : (w5).cell? ⟨w1.heap.size + 1, 0, none⟩ = some (.int .i64 ud) := by rw [HU.out.cell]; rfl
    have u1 : (w5).cell? ⟨w1.heap.size + 1, 1, none⟩ = some (.int .i64 ut) := by rw [HU.out.cell]; rfl
    have v0 : (w5).cell? ⟨w1.heap.size + 1 + 1, 0, none⟩ = some (.int .i64 vd) := by rw [HV.out.cell]; rfl
    have v1 : (w5).cell? ⟨w1.heap.size + 1 + 1, 1, none⟩ = some (.int .i64 vt) := by rw [HV.out.cell]; rfl
    go_wp2_with fail
    go_at_call 14; refine (ReadChart_I R.ch (some ⟨g, 0, none⟩) q ud ut vd vt R.ey hn hm _ (by repeat (with_reducible first | exact HI.out | assumption | refine Ints.drew ?_ | refine Ints.drewN _ ?_ | refine Ints.alloc _ ?_ | refine Ints.step (by assumption) ?_))).mono ?_; rintro e w6 ⟨rfl, hb6⟩; have hka := Bel.ka HB.out hb6 (by repeat (with_reducible first | exact Below.refl _ _ | refine Bel.alloc ?_ _ | refine Below.drew ?_ | refine Bel.drewN ?_ _)); (try (replace HR := Lib.hid (Blk.step hb6 (Blk.step hka HR.out)))); (try (replace HU := Lib.hid (Blk.step hb6 (Blk.step hka HU.out)))); (try (replace HV := Lib.hid (Blk.step hb6 (Blk.step hka HV.out)))); (try (replace HI := Lib.hid (Ints.step hb6 (Ints.step hka HI.out)))); replace HB := Lib.hid (Bel.step hb6 (Bel.step hka HB.out)); have hsz6 := hb6.size; have hsy6 := hka.size; (try simp only [World.size_alloc, World.size_drew, World.heap_drewN, World.size_setCell] at hsz6 hsy6); clear hka hb6
    clear r0 r1 r2 r3 r4 r5 r6 r15 u0 u1 v0 v1
    rw [HF.out.rq]
    obtain ⟨a0, ha0⟩ : ∃ k, k = rqL R.ch ud ut vd vt R.ey := ⟨_, rfl⟩
    obtain ⟨a1, ha1⟩ : ∃ k, k = rqH R.ch ud ut vd vt R.ey := ⟨_, rfl⟩
    rw [← ha0, ← ha1]
    have HAV := Lib.hid (And.intro ha0 ha1)
    clear ha0 ha1
    have HA1 := Lib.hid (by have h := Blk.new w6 39 #[.int .i64 a0, .int .i64 a1]; (try simp only [World.size_alloc] at h); exact h)
    replace HR := Lib.hid (Blk.alloc (.cells #[.int .i64 a0, .int .i64 a1] 39) HR.out)
    replace HU := Lib.hid (Blk.alloc (.cells #[.int .i64 a0, .int .i64 a1] 39) HU.out)
    replace HV := Lib.hid (Blk.alloc (.cells #[.int .i64 a0, .int .i64 a1] 39) HV.out)
    replace HI := Lib.hid (Ints.alloc (.cells #[.int .i64 a0, .int .i64 a1] 39) HI.out)
    replace HB := Lib.hid (Bel.alloc HB.out (.cells #[.int .i64 a0, .int .i64 a1] 39))
    have r0 : (w6.alloc (.cells #[.int .i64 a0, .int .i64 a1] 39)).cell? ⟨w1.heap.size, 0, none⟩ = some (.int .i64 R.ch.dg) := by rw [HR.out.cell]; rfl
    have r1 : (w6.alloc (.cells #[.int .i64 a0, .int .i64 a1] 39)).cell? ⟨w1.heap.size, 1, none⟩ = some (.int .i64 R.ch.tn) := by rw [HR.out.cell]; rfl
    have r2 : (w6.alloc (.cells #[.int .i64 a0, .int .i64 a1] 39)).cell? ⟨w1.heap.size, 2, none⟩ = some (.string R.ch.nm) := by rw [HR.out.cell]; rfl
    have r3 : (w6.alloc (.cells #[.int .i64 a0, .int .i64 a1] 39)).cell? ⟨w1.heap.size, 3, none⟩ = some (.slice (some ⟨g, 0, none⟩) R.ch.zs.length q) := by rw [HR.out.cell]; rfl
    have u0 : (w6.alloc (.cells #[.int .i64 a0, .int .i64 a1] 39)).cell? ⟨w1.heap.size + 1, 0, none⟩ = some (.int .i64 ud) := by rw [HU.out.cell]; rfl
    have u1 : (w6.alloc (.cells #[.int .i64 a0, .int .i64 a1] 39)).cell? ⟨w1.heap.size + 1, 1, none⟩ = some (.int .i64 ut) := by rw [HU.out.cell]; rfl
    have v0 : (w6.alloc (.cells #[.int .i64 a0, .int .i64 a1] 39)).cell? ⟨w1.heap.size + 1 + 1, 0, none⟩ = some (.int .i64 vd) := by rw [HV.out.cell]; rfl
    have v1 : (w6.alloc (.cells #[.int .i64 a0, .int .i64 a1] 39)).cell? ⟨w1.heap.size + 1 + 1, 1, none⟩ = some (.int .i64 vt) := by rw [HV.out.cell]; rfl
    go_wp2_with fail
    go_at_call 15; refine (FormulaLog_I R.ch (some ⟨g, 0, none⟩) q (some ⟨w6.heap.size + 1, 0, none⟩) ud ut vd vt 2 HF.out.ch HF.out.u HF.out.v hn _ (by repeat (with_reducible first | exact HI.out | assumption | refine Ints.drew ?_ | refine Ints.drewN _ ?_ | refine Ints.alloc _ ?_ | refine Ints.step (by assumption) ?_)) (by have h := Prs.mk2 (w6.alloc (.cells #[.int .i64 a0, .int .i64 a1] 39)) 25 ud ut vd vt; simp only [World.size_alloc] at h; exact h)).mono ?_; rintro e w7 ⟨rfl, hb7⟩; have hka := Bel.ka HB.out hb7 (by repeat (with_reducible first | exact Below.refl _ _ | refine Bel.alloc ?_ _ | refine Below.drew ?_ | refine Bel.drewN ?_ _)); (try (replace HR := Lib.hid (Blk.step hb7 (Blk.step hka HR.out)))); (try (replace HU := Lib.hid (Blk.step hb7 (Blk.step hka HU.out)))); (try (replace HV := Lib.hid (Blk.step hb7 (Blk.step hka HV.out)))); (try (replace HA1 := Lib.hid (Blk.step hb7 (Blk.step hka HA1.out)))); (try (replace HI := Lib.hid (Ints.step hb7 (Ints.step hka HI.out)))); replace HB := Lib.hid (Bel.step hb7 (Bel.step hka HB.out)); have hsz7 := hb7.size; have hsy7 := hka.size; (try simp only [World.size_alloc, World.size_drew, World.heap_drewN, World.size_setCell] at hsz7 hsy7); clear hka hb7
    clear r0 r1 r2 r3 u0 u1 v0 v1
    obtain ⟨b0, hb0⟩ : ∃ k, k = fmL R.ch ud ut vd vt := ⟨_, rfl⟩
    obtain ⟨b1, hb1⟩ : ∃ k, k = fmH R.ch ud ut vd vt := ⟨_, rfl⟩
    rw [← hb0, ← hb1]
    have HBV := Lib.hid (And.intro hb0 hb1)
    clear hb0 hb1
    have HB1 := Lib.hid (by have h := Blk.new w7 39 #[.int .i64 b0, .int .i64 b1]; (try simp only [World.size_alloc] at h); exact h)
    replace HR := Lib.hid (Blk.alloc (.cells #[.int .i64 b0, .int .i64 b1] 39) HR.out)
    replace HU := Lib.hid (Blk.alloc (.cells #[.int .i64 b0, .int .i64 b1] 39) HU.out)
    replace HV := Lib.hid (Blk.alloc (.cells #[.int .i64 b0, .int .i64 b1] 39) HV.out)
    replace HA1 := Lib.hid (Blk.alloc (.cells #[.int .i64 b0, .int .i64 b1] 39) HA1.out)
    replace HI := Lib.hid (Ints.alloc (.cells #[.int .i64 b0, .int .i64 b1] 39) HI.out)
    replace HB := Lib.hid (Bel.alloc HB.out (.cells #[.int .i64 b0, .int .i64 b1] 39))
    have i1 : a0 ≤ b0 := by rw [HAV.out.1, HBV.out.1]; exact HF.out.lo
    have i2 : b1 ≤ a1 := by rw [HAV.out.2, HBV.out.2]; exact HF.out.hi
    have ca0 : (w7.alloc (.cells #[.int .i64 b0, .int .i64 b1] 39)).cell? ⟨w6.heap.size, 0, none⟩ = some (.int .i64 a0) := by rw [HA1.out.cell]; rfl
    have ca1 : (w7.alloc (.cells #[.int .i64 b0, .int .i64 b1] 39)).cell? ⟨w6.heap.size, 1, none⟩ = some (.int .i64 a1) := by rw [HA1.out.cell]; rfl
    have cb0 : (w7.alloc (.cells #[.int .i64 b0, .int .i64 b1] 39)).cell? ⟨w7.heap.size, 0, none⟩ = some (.int .i64 b0) := by rw [HB1.out.cell]; rfl
    have cb1 : (w7.alloc (.cells #[.int .i64 b0, .int .i64 b1] 39)).cell? ⟨w7.heap.size, 1, none⟩ = some (.int .i64 b1) := by rw [HB1.out.cell]; rfl
    go_wp2_with fail
    go_at_call 16; refine (inside_c b0 b1 a0 a1 i1 i2 _).mono ?_; rintro e w8 ⟨rfl, hb8⟩; have hka := Bel.ka HB.out hb8 (by repeat (with_reducible first | exact Below.refl _ _ | refine Bel.alloc ?_ _ | refine Below.drew ?_ | refine Bel.drewN ?_ _)); (try (replace HR := Lib.hid (Blk.step hb8 (Blk.step hka HR.out)))); (try (replace HU := Lib.hid (Blk.step hb8 (Blk.step hka HU.out)))); (try (replace HV := Lib.hid (Blk.step hb8 (Blk.step hka HV.out)))); (try (replace HA1 := Lib.hid (Blk.step hb8 (Blk.step hka HA1.out)))); (try (replace HB1 := Lib.hid (Blk.step hb8 (Blk.step hka HB1.out)))); (try (replace HI := Lib.hid (Ints.step hb8 (Ints.step hka HI.out)))); replace HB := Lib.hid (Bel.step hb8 (Bel.step hka HB.out)); have hsz8 := hb8.size; have hsy8 := hka.size; (try simp only [World.size_alloc, World.size_drew, World.heap_drewN, World.size_setCell] at hsz8 hsy8); clear hka hb8
    clear ca0 ca1 cb0 cb1
    go_wp2_with (first | (refine wpList_load_blkG 32 _ _ (Blk.step (Bel.ka0 HB.out (by repeat (with_reducible first | exact Below.refl _ _ | refine Bel.alloc ?_ _ | refine Below.drew ?_ | refine Bel.drewN ?_ _))) HR.out) Try.underlying32 (by kernel_rfl) rfl rfl (by rfl) ?_))
    go_at_call 17; refine (TightenBound_I R (some ⟨g, 0, none⟩) q hn hm _ (by repeat (with_reducible first | exact HI.out | assumption | refine Ints.drew ?_ | refine Ints.drewN _ ?_ | refine Ints.alloc _ ?_ | refine Ints.step (by assumption) ?_))).mono ?_; rintro e w9 ⟨A2, c2, rfl, hO2, hb9⟩; have hka := Bel.ka HB.out hb9 (by repeat (with_reducible first | exact Below.refl _ _ | refine Bel.alloc ?_ _ | refine Below.drew ?_ | refine Bel.drewN ?_ _)); (try (replace HU := Lib.hid (Blk.step hb9 (Blk.step hka HU.out)))); (try (replace HV := Lib.hid (Blk.step hb9 (Blk.step hka HV.out)))); (try (replace HA1 := Lib.hid (Blk.step hb9 (Blk.step hka HA1.out)))); (try (replace HB1 := Lib.hid (Blk.step hb9 (Blk.step hka HB1.out)))); replace HB := Lib.hid (Bel.step hb9 (Bel.step hka HB.out)); have hsz9 := hb9.size; have hsy9 := hka.size; (try simp only [World.size_alloc, World.size_drew, World.heap_drewN, World.size_setCell] at hsz9 hsy9); clear hka hb9
    have HI2 := Lib.hid hO2.ints
    clear hO2
    have hlen : (tbV R).ch.zs.length ≤ 1048576 ∧ (tbV R).ch.nm.size ≤ 1048576 := by
      unfold tbV
      split
      · exact ⟨hn, hm⟩
      · exact ⟨Nat.zero_le _, Nat.zero_le _⟩
    have hbig : tbC R = 0 → tpC (tbV R) ud ut vd vt = 0 ∧ tpB (tbV R) ud ut vd vt = true ∧ a1 - b0 ≤ (tbV R).bo ∧ b1 - a0 ≤ (tbV R).bo ∧ (tbV R).bo ≤ 1048576 := by
      intro h
      obtain ⟨t1, t2⟩ := tight_passes HTP.out h
      obtain ⟨s1, s2, s3, s4, s5, s6⟩ := tb_is h
      refine ⟨t1, t2, ?_, ?_, ?_⟩
      · rw [s5, HAV.out.2, HBV.out.1]; exact HF.out.sa
      · rw [s5, HAV.out.1, HBV.out.2]; exact HF.out.sb
      · have := (inB_iff.1 (okRe_iff s3).2.2.2.2.2.2.1); omega
    have hcode := tb_code R HF.out.re
    obtain ⟨T, hT⟩ : ∃ T, T = tbV R := ⟨_, rfl⟩
    obtain ⟨kb, hkb⟩ : ∃ k, k = tbC R := ⟨_, rfl⟩
    rw [← hT] at hlen hbig HI2
    rw [← hkb] at hbig hcode
    rw [← hT, ← hkb]
    have hfm : b0 ≤ b1 := by rw [HBV.out.1, HBV.out.2]; exact fm_le HF.out.ch _ _ _ _
    clear hT hkb HAV HBV HF HTP HKP HT HK HI HBB
    obtain ⟨hTn, hTm⟩ := hlen
    rcases hcode with rfl | rfl
    rotate_left
    · go_wp2
      go_ret
      exact ⟨rfl, by first | exact HB.out | exact Bel.alloc HB.out _⟩
    obtain ⟨t1, t2, t3, t4, t5⟩ := hbig rfl
    have HTT := Lib.hid (by have h := Blk.new w9 32 #[.int .i64 T.ch.dg, .int .i64 T.ch.tn, .string T.ch.nm, .slice A2 T.ch.zs.length c2, .int .i64 T.ch.wd, .int .i64 T.ch.lf, .int .i64 T.ch.rt, .int .i64 T.ad, .int .i64 T.at_, .int .i64 T.bd, .int .i64 T.bt, .int .i64 T.cd, .int .i64 T.ct, .int .i64 T.dd, .int .i64 T.dt, .int .i64 T.ey, .int .i64 T.bo]; (try simp only [World.size_alloc] at h); exact h)
    replace HU := Lib.hid (Blk.alloc (.cells #[.int .i64 T.ch.dg, .int .i64 T.ch.tn, .string T.ch.nm, .slice A2 T.ch.zs.length c2, .int .i64 T.ch.wd, .int .i64 T.ch.lf, .int .i64 T.ch.rt, .int .i64 T.ad, .int .i64 T.at_, .int .i64 T.bd, .int .i64 T.bt, .int .i64 T.cd, .int .i64 T.ct, .int .i64 T.dd, .int .i64 T.dt, .int .i64 T.ey, .int .i64 T.bo] 32) HU.out)
    replace HV := Lib.hid (Blk.alloc (.cells #[.int .i64 T.ch.dg, .int .i64 T.ch.tn, .string T.ch.nm, .slice A2 T.ch.zs.length c2, .int .i64 T.ch.wd, .int .i64 T.ch.lf, .int .i64 T.ch.rt, .int .i64 T.ad, .int .i64 T.at_, .int .i64 T.bd, .int .i64 T.bt, .int .i64 T.cd, .int .i64 T.ct, .int .i64 T.dd, .int .i64 T.dt, .int .i64 T.ey, .int .i64 T.bo] 32) HV.out)
    replace HA1 := Lib.hid (Blk.alloc (.cells #[.int .i64 T.ch.dg, .int .i64 T.ch.tn, .string T.ch.nm, .slice A2 T.ch.zs.length c2, .int .i64 T.ch.wd, .int .i64 T.ch.lf, .int .i64 T.ch.rt, .int .i64 T.ad, .int .i64 T.at_, .int .i64 T.bd, .int .i64 T.bt, .int .i64 T.cd, .int .i64 T.ct, .int .i64 T.dd, .int .i64 T.dt, .int .i64 T.ey, .int .i64 T.bo] 32) HA1.out)
    replace HB1 := Lib.hid (Blk.alloc (.cells #[.int .i64 T.ch.dg, .int .i64 T.ch.tn, .string T.ch.nm, .slice A2 T.ch.zs.length c2, .int .i64 T.ch.wd, .int .i64 T.ch.lf, .int .i64 T.ch.rt, .int .i64 T.ad, .int .i64 T.at_, .int .i64 T.bd, .int .i64 T.bt, .int .i64 T.cd, .int .i64 T.ct, .int .i64 T.dd, .int .i64 T.dt, .int .i64 T.ey, .int .i64 T.bo] 32) HB1.out)
    replace HI2 := Lib.hid (Ints.alloc (.cells #[.int .i64 T.ch.dg, .int .i64 T.ch.tn, .string T.ch.nm, .slice A2 T.ch.zs.length c2, .int .i64 T.ch.wd, .int .i64 T.ch.lf, .int .i64 T.ch.rt, .int .i64 T.ad, .int .i64 T.at_, .int .i64 T.bd, .int .i64 T.bt, .int .i64 T.cd, .int .i64 T.ct, .int .i64 T.dd, .int .i64 T.dt, .int .i64 T.ey, .int .i64 T.bo] 32) HI2.out)
    replace HB := Lib.hid (Bel.alloc HB.out (.cells #[.int .i64 T.ch.dg, .int .i64 T.ch.tn, .string T.ch.nm, .slice A2 T.ch.zs.length c2, .int .i64 T.ch.wd, .int .i64 T.ch.lf, .int .i64 T.ch.rt, .int .i64 T.ad, .int .i64 T.at_, .int .i64 T.bd, .int .i64 T.bt, .int .i64 T.cd, .int .i64 T.ct, .int .i64 T.dd, .int .i64 T.dt, .int .i64 T.ey, .int .i64 T.bo] 32))
    go_wp2_with (first | (refine wpList_load_blkG 32 _ _ (Blk.step (Bel.ka0 HB.out (by repeat (with_reducible first | exact Below.refl _ _ | refine Bel.alloc ?_ _ | refine Below.drew ?_ | refine Bel.drewN ?_ _))) HTT.out) Try.underlying32 (by kernel_rfl) rfl rfl (by rfl) ?_) | (refine wpList_load_blkG 25 _ _ (Blk.step (Bel.ka0 HB.out (by repeat (with_reducible first | exact Below.refl _ _ | refine Bel.alloc ?_ _ | refine Below.drew ?_ | refine Bel.drewN ?_ _))) HU.out) Try.underlying25 (by kernel_rfl) rfl rfl (by rfl) ?_) | (refine wpList_load_blkG 25 _ _ (Blk.step (Bel.ka0 HB.out (by repeat (with_reducible first | exact Below.refl _ _ | refine Bel.alloc ?_ _ | refine Below.drew ?_ | refine Bel.drewN ?_ _))) HV.out) Try.underlying25 (by kernel_rfl) rfl rfl (by rfl) ?_))
    go_at_call 10; refine (TestPair_I T A2 c2 ud ut vd vt hTn hTm _ (by repeat (with_reducible first | exact HI2.out | assumption | refine Ints.drew ?_ | refine Ints.drewN _ ?_ | refine Ints.alloc _ ?_ | refine Ints.step (by assumption) ?_))).mono ?_; rintro e w10 ⟨rfl, hb10⟩; have hka := Bel.ka HB.out hb10 (by repeat (with_reducible first | exact Below.refl _ _ | refine Bel.alloc ?_ _ | refine Below.drew ?_ | refine Bel.drewN ?_ _)); (try (replace HTT := Lib.hid (Blk.step hb10 (Blk.step hka HTT.out)))); (try (replace HA1 := Lib.hid (Blk.step hb10 (Blk.step hka HA1.out)))); (try (replace HB1 := Lib.hid (Blk.step hb10 (Blk.step hka HB1.out)))); replace HB := Lib.hid (Bel.step hb10 (Bel.step hka HB.out)); have hsz10 := hb10.size; have hsy10 := hka.size; (try simp only [World.size_alloc, World.size_drew, World.heap_drewN, World.size_setCell] at hsz10 hsy10); clear hka hb10
    rw [t1, t2]
    have ca0 : (w10).cell? ⟨w6.heap.size, 0, none⟩ = some (.int .i64 a0) := by rw [HA1.out.cell]; rfl
    have ca1 : (w10).cell? ⟨w6.heap.size, 1, none⟩ = some (.int .i64 a1) := by rw [HA1.out.cell]; rfl
    have cb0 : (w10).cell? ⟨w7.heap.size, 0, none⟩ = some (.int .i64 b0) := by rw [HB1.out.cell]; rfl
    have cb1 : (w10).cell? ⟨w7.heap.size, 1, none⟩ = some (.int .i64 b1) := by rw [HB1.out.cell]; rfl
    have ct : w10.cell? ⟨w9.heap.size, 16, none⟩ = some (.int .i64 T.bo) := by rw [HTT.out.cell]; rfl
    have e1 : IntKind.i64.wrap (a1 - b0) = a1 - b0 := wr64 (by omega) (by omega)
    have e2 : IntKind.i64.wrap (b1 - a0) = b1 - a0 := wr64 (by omega) (by omega)
    clear t1 t2
    go_wp2
    go_ret
    exact ⟨rfl, by first | exact HB.out | exact Bel.alloc HB.out _⟩
end Go.Proofs.Ytpmcgicopogbhaa
