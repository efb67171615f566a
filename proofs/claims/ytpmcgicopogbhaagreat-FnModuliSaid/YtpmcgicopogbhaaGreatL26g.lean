/- Chapter 26: the greatest modulus for which a scale fits. Conditions: as stated at each contract. -/
import Derived.Test.YtpmcgicopogbhaaGreatProg
import Derived.Test.YtpmcgicopogbhaaGreatBase
import Derived.Test.YtpmcgicopogbhaaGreatZy
import Derived.Test.YtpmcgicopogbhaaGreatRw
import Derived.Test.YtpmcgicopogbhaaGreatL01
import Derived.Test.YtpmcgicopogbhaaGreatCp
import Derived.Test.YtpmcgicopogbhaaGreatCm
import Derived.Test.YtpmcgicopogbhaaGreatL18
import Derived.Test.YtpmcgicopogbhaaGreatL23
import Derived.Test.YtpmcgicopogbhaaGreatL23b
import Derived.Test.YtpmcgicopogbhaaGreatL03
import Derived.Test.YtpmcgicopogbhaaGreatL23d
import Derived.Test.YtpmcgicopogbhaaGreatL23e
import Derived.Test.YtpmcgicopogbhaaGreatL24
import Derived.Test.YtpmcgicopogbhaaGreatL24b
import Derived.Test.YtpmcgicopogbhaaGreatL23g
import Derived.Test.YtpmcgicopogbhaaGreatL23h
import Derived.Test.YtpmcgicopogbhaaGreatL23i
import Derived.WalkKit
import Derived.WalkSpells
import Derived.WalkLawsBesides
import Derived.Lib.Hide
import Derived.Deep.QuietTactic
import Derived.BigQuiet
import Derived.Deep.Draws
import Derived.Deep.RegionHeld3
namespace Go.Proofs.YtpmcgicopogbhaaGreat
set_option linter.unusedSimpArgs false
open Go.RowKit
set_option linter.unusedVariables false
def gmD (C : Ch) (x : Int) : Ch := { C with lf := x }
def gmP (C : Ch) (ud ut vd vt mo : Int) (k : Nat) : Bool := decide (chC (gmD C (20000 - 100 * k)) 0 ud ut vd vt = 0) && decide (chV (gmD C (20000 - 100 * k)) 0 ud ut vd vt ≤ mo)
def gmI (C : Ch) (ud ut vd vt mo : Int) : Int := idxF (gmP C ud ut vd vt mo) (List.range 200) 0
def gmK (C : Ch) (ud ut vd vt mo : Int) : Int := if okCh C && (okF ud ut && okF vd vt) then (if inB mo 0 100000 then 0 else 2) else 1
def gmC (C : Ch) (ud ut vd vt mo : Int) : Int := if gmK C ud ut vd vt mo = 0 then (if gmI C ud ut vd vt mo = -1 then 4 else 0) else gmK C ud ut vd vt mo
def gmV (C : Ch) (ud ut vd vt mo : Int) : Int := if gmK C ud ut vd vt mo = 0 then (if gmI C ud ut vd vt mo = -1 then 0 else 20000 - 100 * gmI C ud ut vd vt mo) else 0
theorem gm_here {C : Ch} {ud ut vd vt mo x : Int} {k : Nat} (hk : k < 200) (hx : 20000 - 100 * (k : Int) = x) : idxF (gmP C ud ut vd vt mo) ((List.range 200).drop k) k = if decide (chC (gmD C x) 0 ud ut vd vt = 0) && decide (chV (gmD C x) 0 ud ut vd vt ≤ mo) then (k : Int) else idxF (gmP C ud ut vd vt mo) ((List.range 200).drop (k + 1)) (k + 1) := by
  rw [idxF_step _ _ k (by simpa using hk)]
  subst hx
  simp [gmP]
theorem gm_end (C : Ch) (ud ut vd vt mo : Int) {k : Nat} (hk : 200 ≤ k) : idxF (gmP C ud ut vd vt mo) ((List.range 200).drop k) k = -1 := idxF_end _ _ _ (by simpa using hk)
theorem gm_no {C : Ch} {ud ut vd vt mo : Int} (h : gmK C ud ut vd vt mo ≠ 0) : gmC C ud ut vd vt mo = gmK C ud ut vd vt mo ∧ gmV C ud ut vd vt mo = 0 := by simp [gmC, gmV, h]
set_option maxRecDepth 20000 in
set_option maxHeartbeats 4000000 in
theorem GreatestModulus_S (C : Ch) (A : Option Addr) (c : Nat) (ud ut vd vt mo : Int) (hn : C.zs.length ≤ 1048576) (hm : C.nm.size ≤ 1048576) (w : World) (hA : Ints w A C.zs) :
    Calls Tryz.prog 34 #[.agg #[.int .i64 C.dg, .int .i64 C.tn, .string C.nm, .slice A C.zs.length c, .int .i64 C.wd, .int .i64 C.lf, .int .i64 C.rt], .agg #[.int .i64 ud, .int .i64 ut], .agg #[.int .i64 vd, .int .i64 vt], .int .i64 mo] w fun r w' => r = .returned (.tuple #[.int .i64 (gmV C ud ut vd vt mo), .int .i64 (gmC C ud ut vd vt mo)]) ∧ Below w.heap.size w w' := by
  have HA := Lib.hid hA
  clear hA
  by_cases h1 : okCh C = true
  rotate_left
  · have h1' : okCh C = false := by simpa using h1
    have HK := Lib.hid (gm_no (C := C) (ud := ud) (ut := ut) (vd := vd) (vt := vt) (mo := mo) (by simp [gmK, h1']))
    have HE := Lib.hid (show gmK C ud ut vd vt mo = 1 by simp [gmK, h1'])
    clear h1
    go_enter Tryz.func34, Tryz.ntmps34
    go_wp2_with fail
    go_at_call 54; refine (IsChart_S _ _ _ hn hm _ (by repeat (with_reducible first | exact HA.out | assumption | refine Ints.drew ?_ | refine Ints.drewN _ ?_ | refine Ints.alloc _ ?_ | refine Ints.step (by assumption) ?_))).mono ?_; rintro e w1 ⟨rfl, hb1⟩; obtain ⟨hc1, hf1, hz1⟩ := bel hb1; (try simp only [World.size_drew, World.cell?_drew, World.frozen?_drew, World.heap_drewN, World.cell?_drewN, World.frozen?_drewN] at hc1 hf1 hz1); (try have hl1 : w.heap.size < w1.heap.size := zl hb1); (try have hm1 : w.heap.size + 1 < w1.heap.size := zl hb1); (try have hn1 : w.heap.size + 1 + 1 < w1.heap.size := zl hb1); (try have hp1 : b < w1.heap.size := zl hb1); (try have ho1 : b' < w1.heap.size := by (have hq := hb1.size; (try simp at hq); omega))
    rw [h1']
    go_wp2
    go_ret2
    exact ⟨by rw [HK.out.1, HK.out.2, HE.out]; rfl, by repeat (with_reducible first | exact Below.refl _ _ | assumption | refine Bel.alloc ?_ _ | refine Bel.step (by assumption) ?_ | refine Below.drew ?_ | refine Bel.drewN ?_ _ | refine Below.setCell ?_ (by first | exact Nat.le_refl _ | omega | (simp; done) | (simp; omega)) _)⟩
  by_cases h2 : (okF ud ut && okF vd vt) = true
  rotate_left
  · have h2' : (okF ud ut && okF vd vt) = false := by simpa using h2
    have HK := Lib.hid (gm_no (C := C) (ud := ud) (ut := ut) (vd := vd) (vt := vt) (mo := mo) (by simp only [gmK, h2', Bool.and_false]; simp))
    have HE := Lib.hid (show gmK C ud ut vd vt mo = 1 by simp only [gmK, h2', Bool.and_false]; simp)
    have H2 := Lib.hid h2'
    clear h2 h2'
    go_enter Tryz.func34, Tryz.ntmps34
    go_wp2_with fail
    go_at_call 54; refine (IsChart_S _ _ _ hn hm _ (by repeat (with_reducible first | exact HA.out | assumption | refine Ints.drew ?_ | refine Ints.drewN _ ?_ | refine Ints.alloc _ ?_ | refine Ints.step (by assumption) ?_))).mono ?_; rintro e w1 ⟨rfl, hb1⟩; obtain ⟨hc1, hf1, hz1⟩ := bel hb1; (try simp only [World.size_drew, World.cell?_drew, World.frozen?_drew, World.heap_drewN, World.cell?_drewN, World.frozen?_drewN] at hc1 hf1 hz1); (try have hl1 : w.heap.size < w1.heap.size := zl hb1); (try have hm1 : w.heap.size + 1 < w1.heap.size := zl hb1); (try have hn1 : w.heap.size + 1 + 1 < w1.heap.size := zl hb1); (try have hp1 : b < w1.heap.size := zl hb1); (try have ho1 : b' < w1.heap.size := by (have hq := hb1.size; (try simp at hq); omega))
    rw [h1]
    have l3 : w.heap.size + 1 + 1 < w1.heap.size := by have := hb1.size; (try simp at this); omega
    go_wp2_with fail
    go_at_call 74; refine (l02Two_c _ _ _ _ _).mono ?_; rintro e w2 ⟨rfl, hb2⟩; obtain ⟨hc2, hf2, hz2⟩ := bel hb2; (try simp only [World.size_drew, World.cell?_drew, World.frozen?_drew, World.heap_drewN, World.cell?_drewN, World.frozen?_drewN] at hc2 hf2 hz2); (try have hl2 : w.heap.size < w2.heap.size := zl hb2); (try have hm2 : w.heap.size + 1 < w2.heap.size := zl hb2); (try have hn2 : w.heap.size + 1 + 1 < w2.heap.size := zl hb2); (try have hp2 : b < w2.heap.size := zl hb2); (try have ho2 : b' < w2.heap.size := by (have hq := hb2.size; (try simp at hq); omega))
    rw [H2.out]
    go_wp2
    go_ret2
    exact ⟨by rw [HK.out.1, HK.out.2, HE.out]; rfl, by repeat (with_reducible first | exact Below.refl _ _ | assumption | refine Bel.alloc ?_ _ | refine Bel.step (by assumption) ?_ | refine Below.drew ?_ | refine Bel.drewN ?_ _ | refine Below.setCell ?_ (by first | exact Nat.le_refl _ | omega | (simp; done) | (simp; omega)) _)⟩
  by_cases h3 : inB mo 0 100000 = true
  rotate_left
  · have h3' : inB mo 0 100000 = false := by simpa using h3
    have HK := Lib.hid (gm_no (C := C) (ud := ud) (ut := ut) (vd := vd) (vt := vt) (mo := mo) (by simp only [gmK, h1, h2, h3']; simp))
    have HE := Lib.hid (show gmK C ud ut vd vt mo = 2 by simp only [gmK, h1, h2, h3']; simp)
    have H2 := Lib.hid h2
    clear h2 h3
    go_enter Tryz.func34, Tryz.ntmps34
    go_wp2_with fail
    go_at_call 54; refine (IsChart_S _ _ _ hn hm _ (by repeat (with_reducible first | exact HA.out | assumption | refine Ints.drew ?_ | refine Ints.drewN _ ?_ | refine Ints.alloc _ ?_ | refine Ints.step (by assumption) ?_))).mono ?_; rintro e w1 ⟨rfl, hb1⟩; obtain ⟨hc1, hf1, hz1⟩ := bel hb1; (try simp only [World.size_drew, World.cell?_drew, World.frozen?_drew, World.heap_drewN, World.cell?_drewN, World.frozen?_drewN] at hc1 hf1 hz1); (try have hl1 : w.heap.size < w1.heap.size := zl hb1); (try have hm1 : w.heap.size + 1 < w1.heap.size := zl hb1); (try have hn1 : w.heap.size + 1 + 1 < w1.heap.size := zl hb1); (try have hp1 : b < w1.heap.size := zl hb1); (try have ho1 : b' < w1.heap.size := by (have hq := hb1.size; (try simp at hq); omega))
    rw [h1]
    have l3 : w.heap.size + 1 + 1 < w1.heap.size := by have := hb1.size; (try simp at this); omega
    go_wp2_with fail
    go_at_call 74; refine (l02Two_c _ _ _ _ _).mono ?_; rintro e w2 ⟨rfl, hb2⟩; obtain ⟨hc2, hf2, hz2⟩ := bel hb2; (try simp only [World.size_drew, World.cell?_drew, World.frozen?_drew, World.heap_drewN, World.cell?_drewN, World.frozen?_drewN] at hc2 hf2 hz2); (try have hl2 : w.heap.size < w2.heap.size := zl hb2); (try have hm2 : w.heap.size + 1 < w2.heap.size := zl hb2); (try have hn2 : w.heap.size + 1 + 1 < w2.heap.size := zl hb2); (try have hp2 : b < w2.heap.size := zl hb2); (try have ho2 : b' < w2.heap.size := by (have hq := hb2.size; (try simp at hq); omega))
    rw [H2.out]
    go_wp2_with fail
    go_at_call 55; refine (l01In_c _ _ _ _).mono ?_; rintro e w' ⟨rfl, rfl⟩
    rw [h3']
    go_wp2
    go_ret2
    exact ⟨by rw [HK.out.1, HK.out.2, HE.out]; rfl, by repeat (with_reducible first | exact Below.refl _ _ | assumption | refine Bel.alloc ?_ _ | refine Bel.step (by assumption) ?_ | refine Below.drew ?_ | refine Bel.drewN ?_ _ | refine Below.setCell ?_ (by first | exact Nat.le_refl _ | omega | (simp; done) | (simp; omega)) _)⟩
  have HK := Lib.hid (show gmK C ud ut vd vt mo = 0 by simp only [gmK, h1, h2, h3]; simp)
  have HGC := Lib.hid (show gmC C ud ut vd vt mo = (if gmI C ud ut vd vt mo = -1 then 4 else 0) by rw [gmC, if_pos HK.out])
  have HGV := Lib.hid (show gmV C ud ut vd vt mo = (if gmI C ud ut vd vt mo = -1 then 0 else 20000 - 100 * gmI C ud ut vd vt mo) by rw [gmV, if_pos HK.out])
  have H2 := Lib.hid h2
  obtain ⟨_, ⟨z1, z2⟩, _, ⟨a1, a2⟩, ⟨a3, a4⟩, _, _⟩ := okCh_iff h1
  clear h2
  go_enter Tryz.func34, Tryz.ntmps34
  go_wp2_with fail
  go_at_call 54; refine (IsChart_S _ _ _ hn hm _ (by repeat (with_reducible first | exact HA.out | assumption | refine Ints.drew ?_ | refine Ints.drewN _ ?_ | refine Ints.alloc _ ?_ | refine Ints.step (by assumption) ?_))).mono ?_; rintro e w1 ⟨rfl, hb1⟩; obtain ⟨hc1, hf1, hz1⟩ := bel hb1; (try simp only [World.size_drew, World.cell?_drew, World.frozen?_drew, World.heap_drewN, World.cell?_drewN, World.frozen?_drewN] at hc1 hf1 hz1); (try have hl1 : w.heap.size < w1.heap.size := zl hb1); (try have hm1 : w.heap.size + 1 < w1.heap.size := zl hb1); (try have hn1 : w.heap.size + 1 + 1 < w1.heap.size := zl hb1); (try have hp1 : b < w1.heap.size := zl hb1); (try have ho1 : b' < w1.heap.size := by (have hq := hb1.size; (try simp at hq); omega))
  rw [h1]
  have l3 : w.heap.size + 1 + 1 < w1.heap.size := by have := hb1.size; (try simp at this); omega
  go_wp2_with fail
  go_at_call 74; refine (l02Two_c _ _ _ _ _).mono ?_; rintro e w2 ⟨rfl, hb2⟩; obtain ⟨hc2, hf2, hz2⟩ := bel hb2; (try simp only [World.size_drew, World.cell?_drew, World.frozen?_drew, World.heap_drewN, World.cell?_drewN, World.frozen?_drewN] at hc2 hf2 hz2); (try have hl2 : w.heap.size < w2.heap.size := zl hb2); (try have hm2 : w.heap.size + 1 < w2.heap.size := zl hb2); (try have hn2 : w.heap.size + 1 + 1 < w2.heap.size := zl hb2); (try have hp2 : b < w2.heap.size := zl hb2); (try have ho2 : b' < w2.heap.size := by (have hq := hb2.size; (try simp at hq); omega))
  rw [H2.out]
  go_wp2_with fail
  go_at_call 55; refine (l01In_c _ _ _ _).mono ?_; rintro e w' ⟨rfl, rfl⟩
  rw [h3]
  have hbel2 : Below w.heap.size w w2 := by repeat (with_reducible first | exact Below.refl _ _ | assumption | refine Bel.alloc ?_ _ | refine Bel.step (by assumption) ?_ | refine Below.drew ?_ | refine Bel.drewN ?_ _ | refine Below.setCell ?_ (by first | exact Nat.le_refl _ | omega | (simp; done) | (simp; omega)) _)
  have B0 : Hid (Blk w2 w.heap.size 30 #[.int .i64 C.dg, .int .i64 C.tn, .string C.nm, .slice A C.zs.length c, .int .i64 C.wd, .int .i64 C.lf, .int .i64 C.rt]) := Lib.hid (by
    have h0 := Blk.alloc (.cells #[.int .i64 vd, .int .i64 vt] 25) (Blk.alloc (.cells #[.int .i64 ud, .int .i64 ut] 25) (Blk.new w 30 #[.int .i64 C.dg, .int .i64 C.tn, .string C.nm, .slice A C.zs.length c, .int .i64 C.wd, .int .i64 C.lf, .int .i64 C.rt]))
    exact Blk.step hb2 (Blk.step hb1 h0))
  have B1 : Hid (Blk w2 (w.heap.size + 1) 25 #[.int .i64 ud, .int .i64 ut]) := Lib.hid (by
    have h0 := Blk.alloc (.cells #[.int .i64 vd, .int .i64 vt] 25) (Blk.new (w.alloc (.cells #[.int .i64 C.dg, .int .i64 C.tn, .string C.nm, .slice A C.zs.length c, .int .i64 C.wd, .int .i64 C.lf, .int .i64 C.rt] 30)) 25 #[.int .i64 ud, .int .i64 ut])
    simp only [World.size_alloc] at h0
    exact Blk.step hb2 (Blk.step hb1 h0))
  have B2 : Hid (Blk w2 (w.heap.size + 1 + 1) 25 #[.int .i64 vd, .int .i64 vt]) := Lib.hid (by
    have h0 := Blk.new ((w.alloc (.cells #[.int .i64 C.dg, .int .i64 C.tn, .string C.nm, .slice A C.zs.length c, .int .i64 C.wd, .int .i64 C.lf, .int .i64 C.rt] 30)).alloc (.cells #[.int .i64 ud, .int .i64 ut] 25)) 25 #[.int .i64 vd, .int .i64 vt]
    simp only [World.size_alloc] at h0
    exact Blk.step hb2 (Blk.step hb1 h0))
  clear hb1 hc1 hf1 hz1 hb2 hc2 hf2 hz2
  go_wp2
  go_loopw [10, 11, 12] (fun l _ _ wr => ∃ (k : Nat) (x : Int), k ≤ 200 ∧ l = .int .i64 x ∧ x + 100 * (k : Int) ≤ 20000 ∧ 20000 ≤ x + 100 * (k : Int) ∧ Hid (gmI C ud ut vd vt mo = idxF (gmP C ud ut vd vt mo) ((List.range 200).drop k) k) ∧ Hid (Blk wr w.heap.size 30 #[.int .i64 C.dg, .int .i64 C.tn, .string C.nm, .slice A C.zs.length c, .int .i64 C.wd, .int .i64 C.lf, .int .i64 C.rt]) ∧ Hid (Blk wr (w.heap.size + 1) 25 #[.int .i64 ud, .int .i64 ut]) ∧ Hid (Blk wr (w.heap.size + 1 + 1) 25 #[.int .i64 vd, .int .i64 vt]) ∧ Below w.heap.size w wr) (fun l _ _ _ => (intOf l).toNat)
  case atStart => exact ⟨0, 20000, Nat.zero_le _, rfl, by omega, by omega, Lib.hid rfl, B0, B1, B2, hbel2⟩
  case round =>
    obtain ⟨k, x, hk, rfl, x1, x2, HG, C0, C1, C2, hbel⟩ := hrel
    by_cases hlt : k < 200
    · have hx : 100 ≤ x := by omega
      have hx' : x ≤ 20000 := by omega
      have HS := Lib.hid (gm_here (C := C) (ud := ud) (ut := ut) (vd := vd) (vt := vt) (mo := mo) hlt (show 20000 - 100 * (k : Int) = x by omega))
      have c0 : wr.cell? ⟨w.heap.size, 0, none⟩ = some (.int .i64 C.dg) := by rw [C0.out.cell]; rfl
      have c1 : wr.cell? ⟨w.heap.size, 1, none⟩ = some (.int .i64 C.tn) := by rw [C0.out.cell]; rfl
      have c2 : wr.cell? ⟨w.heap.size, 2, none⟩ = some (.string C.nm) := by rw [C0.out.cell]; rfl
      have c3 : wr.cell? ⟨w.heap.size, 3, none⟩ = some (.slice A C.zs.length c) := by rw [C0.out.cell]; rfl
      have c4 : wr.cell? ⟨w.heap.size, 4, none⟩ = some (.int .i64 C.wd) := by rw [C0.out.cell]; rfl
      have c5 : wr.cell? ⟨w.heap.size, 5, none⟩ = some (.int .i64 C.lf) := by rw [C0.out.cell]; rfl
      have c6 : wr.cell? ⟨w.heap.size, 6, none⟩ = some (.int .i64 C.rt) := by rw [C0.out.cell]; rfl
      have u0 : wr.cell? ⟨w.heap.size + 1, 0, none⟩ = some (.int .i64 ud) := by rw [C1.out.cell]; rfl
      have u1 : wr.cell? ⟨w.heap.size + 1, 1, none⟩ = some (.int .i64 ut) := by rw [C1.out.cell]; rfl
      have v0 : wr.cell? ⟨w.heap.size + 1 + 1, 0, none⟩ = some (.int .i64 vd) := by rw [C2.out.cell]; rfl
      have v1 : wr.cell? ⟨w.heap.size + 1 + 1, 1, none⟩ = some (.int .i64 vt) := by rw [C2.out.cell]; rfl
      have k0 := C0.out.lt
      have k1 := C1.out.lt
      have k2 := C2.out.lt
      have HI := Lib.hid (Ints.step hbel HA.out)
      have hz0 : 0 < C.zs.length := by omega
      by_cases hc : chC (gmD C x) 0 ud ut vd vt = 0
      · by_cases hv : chV (gmD C x) 0 ud ut vd vt ≤ mo
        · have HR := Lib.hid (show gmI C ud ut vd vt mo = (k : Int) by rw [HG.out, HS.out]; simp [hc, hv])
          have HV := Lib.hid (show gmC C ud ut vd vt mo = 0 ∧ gmV C ud ut vd vt mo = x by rw [HGC.out, HGV.out, HR.out, if_neg (by omega), if_neg (by omega)]; exact ⟨rfl, by omega⟩)
          have HCC := Lib.hid hc
          clear hc
          go_wp2_with fail
          refine (ChartHeight_S (gmD C x) A c 0 ud ut vd vt hn hm wr HI.out).mono ?_; rintro e wx ⟨rfl, hbx⟩
          have hbW : Below wr.heap.size wr wx := by repeat (with_reducible first | exact Below.refl _ _ | assumption | refine Bel.alloc ?_ _ | refine Bel.step (by assumption) ?_ | refine Below.drew ?_ | refine Bel.drewN ?_ _ | refine Below.setCell ?_ (by first | exact Nat.le_refl _ | omega | (simp; done) | (simp; omega)) _)
          have HB := Lib.hid (And.intro (Blk.step hbW C0.out) (And.intro (Blk.step hbW C1.out) (Blk.step hbW C2.out)))
          have hbelW := Bel.step hbW hbel
          rw [HCC.out]
          go_wp2
          go_ret2
          exact ⟨by rw [HV.out.1, HV.out.2]; rfl, by repeat (with_reducible first | exact Below.refl _ _ | assumption | refine Bel.alloc ?_ _ | refine Bel.step (by assumption) ?_ | refine Below.drew ?_ | refine Bel.drewN ?_ _ | refine Below.setCell ?_ (by first | exact Nat.le_refl _ | omega | (simp; done) | (simp; omega)) _)⟩
        · have HR := Lib.hid (show gmI C ud ut vd vt mo = idxF (gmP C ud ut vd vt mo) ((List.range 200).drop (k + 1)) (k + 1) by rw [HG.out, HS.out]; simp [hv])
          have HCC := Lib.hid hc
          clear hc
          go_wp2_with fail
          refine (ChartHeight_S (gmD C x) A c 0 ud ut vd vt hn hm wr HI.out).mono ?_; rintro e wx ⟨rfl, hbx⟩
          have hbW : Below wr.heap.size wr wx := by repeat (with_reducible first | exact Below.refl _ _ | assumption | refine Bel.alloc ?_ _ | refine Bel.step (by assumption) ?_ | refine Below.drew ?_ | refine Bel.drewN ?_ _ | refine Below.setCell ?_ (by first | exact Nat.le_refl _ | omega | (simp; done) | (simp; omega)) _)
          have HB := Lib.hid (And.intro (Blk.step hbW C0.out) (And.intro (Blk.step hbW C1.out) (Blk.step hbW C2.out)))
          have hbelW := Bel.step hbW hbel
          rw [HCC.out]
          go_wp2
          go_roundw
          case rel => exact ⟨k + 1, x - 100, by omega, rfl, by omega, by omega, HR, Lib.hid HB.out.1, Lib.hid HB.out.2.1, Lib.hid HB.out.2.2, hbelW⟩
          case measure => simp [intOf]; omega
      · have HR := Lib.hid (show gmI C ud ut vd vt mo = idxF (gmP C ud ut vd vt mo) ((List.range 200).drop (k + 1)) (k + 1) by rw [HG.out, HS.out]; simp [hc])
        have b1 : (chC (gmD C x) 0 ud ut vd vt == 0) = false := by simpa using hc
        clear hc
        go_wp2_with fail
        refine (ChartHeight_S (gmD C x) A c 0 ud ut vd vt hn hm wr HI.out).mono ?_; rintro e wx ⟨rfl, hbx⟩
        have hbW : Below wr.heap.size wr wx := by repeat (with_reducible first | exact Below.refl _ _ | assumption | refine Bel.alloc ?_ _ | refine Bel.step (by assumption) ?_ | refine Below.drew ?_ | refine Bel.drewN ?_ _ | refine Below.setCell ?_ (by first | exact Nat.le_refl _ | omega | (simp; done) | (simp; omega)) _)
        have HB := Lib.hid (And.intro (Blk.step hbW C0.out) (And.intro (Blk.step hbW C1.out) (Blk.step hbW C2.out)))
        have hbelW := Bel.step hbW hbel
        go_wp2
        go_roundw
        case rel => exact ⟨k + 1, x - 100, by omega, rfl, by omega, by omega, HR, Lib.hid HB.out.1, Lib.hid HB.out.2.1, Lib.hid HB.out.2.2, hbelW⟩
        case measure => simp [intOf]; omega
    · obtain rfl : k = 200 := by omega
      have HX := Lib.hid (HG.out.trans (gm_end C ud ut vd vt mo (Nat.le_refl _)))
      have hx : x < 100 := by omega
      go_wp2
      go_ret2
      exact ⟨by rw [HGC.out, HGV.out, HX.out]; rfl, by repeat (with_reducible first | exact Below.refl _ _ | assumption | refine Bel.alloc ?_ _ | refine Bel.step (by assumption) ?_ | refine Below.drew ?_ | refine Bel.drewN ?_ _ | refine Below.setCell ?_ (by first | exact Nat.le_refl _ | omega | (simp; done) | (simp; omega)) _)⟩
set_option maxRecDepth 20000 in
set_option maxHeartbeats 4000000 in
theorem GreatestModulus_I (C : Ch) (A : Option Addr) (c : Nat) (ud ut vd vt mo : Int) (hn : C.zs.length ≤ 1048576) (hm : C.nm.size ≤ 1048576) (w : World) (hA : Ints w A C.zs) :
    Calls Tryz.prog 33 #[.agg #[.int .i64 C.dg, .int .i64 C.tn, .string C.nm, .slice A C.zs.length c, .int .i64 C.wd, .int .i64 C.lf, .int .i64 C.rt], .agg #[.int .i64 ud, .int .i64 ut], .agg #[.int .i64 vd, .int .i64 vt], .int .i64 mo] w fun r w' => r = .returned (.tuple #[.int .i64 (gmV C ud ut vd vt mo), .int .i64 (gmC C ud ut vd vt mo)]) ∧ Below w.heap.size w w' := by
  have HA := Lib.hid hA
  clear hA
  by_cases h1 : okCh C = true
  rotate_left
  · have h1' : okCh C = false := by simpa using h1
    have HK := Lib.hid (gm_no (C := C) (ud := ud) (ut := ut) (vd := vd) (vt := vt) (mo := mo) (by simp [gmK, h1']))
    have HE := Lib.hid (show gmK C ud ut vd vt mo = 1 by simp [gmK, h1'])
    clear h1
    go_enter Tryz.func33, Tryz.ntmps33
    go_wp2_with fail
    go_at_call 69; refine (IsChart_I _ _ _ hn hm _ (by repeat (with_reducible first | exact HA.out | assumption | refine Ints.drew ?_ | refine Ints.drewN _ ?_ | refine Ints.alloc _ ?_ | refine Ints.step (by assumption) ?_))).mono ?_; rintro e w1 ⟨rfl, hb1⟩; obtain ⟨hc1, hf1, hz1⟩ := bel hb1; (try simp only [World.size_drew, World.cell?_drew, World.frozen?_drew, World.heap_drewN, World.cell?_drewN, World.frozen?_drewN] at hc1 hf1 hz1); (try have hl1 : w.heap.size < w1.heap.size := zl hb1); (try have hm1 : w.heap.size + 1 < w1.heap.size := zl hb1); (try have hn1 : w.heap.size + 1 + 1 < w1.heap.size := zl hb1); (try have hp1 : b < w1.heap.size := zl hb1); (try have ho1 : b' < w1.heap.size := by (have hq := hb1.size; (try simp at hq); omega))
    rw [h1']
    go_wp2
    go_ret2
    exact ⟨by rw [HK.out.1, HK.out.2, HE.out]; rfl, by repeat (with_reducible first | exact Below.refl _ _ | assumption | refine Bel.alloc ?_ _ | refine Bel.step (by assumption) ?_ | refine Below.drew ?_ | refine Bel.drewN ?_ _ | refine Below.setCell ?_ (by first | exact Nat.le_refl _ | omega | (simp; done) | (simp; omega)) _)⟩
  by_cases h2 : (okF ud ut && okF vd vt) = true
  rotate_left
  · have h2' : (okF ud ut && okF vd vt) = false := by simpa using h2
    have HK := Lib.hid (gm_no (C := C) (ud := ud) (ut := ut) (vd := vd) (vt := vt) (mo := mo) (by simp only [gmK, h2', Bool.and_false]; simp))
    have HE := Lib.hid (show gmK C ud ut vd vt mo = 1 by simp only [gmK, h2', Bool.and_false]; simp)
    have H2 := Lib.hid h2'
    clear h2 h2'
    go_enter Tryz.func33, Tryz.ntmps33
    go_wp2_with fail
    go_at_call 69; refine (IsChart_I _ _ _ hn hm _ (by repeat (with_reducible first | exact HA.out | assumption | refine Ints.drew ?_ | refine Ints.drewN _ ?_ | refine Ints.alloc _ ?_ | refine Ints.step (by assumption) ?_))).mono ?_; rintro e w1 ⟨rfl, hb1⟩; obtain ⟨hc1, hf1, hz1⟩ := bel hb1; (try simp only [World.size_drew, World.cell?_drew, World.frozen?_drew, World.heap_drewN, World.cell?_drewN, World.frozen?_drewN] at hc1 hf1 hz1); (try have hl1 : w.heap.size < w1.heap.size := zl hb1); (try have hm1 : w.heap.size + 1 < w1.heap.size := zl hb1); (try have hn1 : w.heap.size + 1 + 1 < w1.heap.size := zl hb1); (try have hp1 : b < w1.heap.size := zl hb1); (try have ho1 : b' < w1.heap.size := by (have hq := hb1.size; (try simp at hq); omega))
    rw [h1]
    have l3 : w.heap.size + 1 + 1 < w1.heap.size := by have := hb1.size; (try simp at this); omega
    have hP := Prs.mk2 w1 25 ud ut vd vt
    go_wp2_with fail
    go_at_call 70; refine (areFigures_c _ 2 [(ud, ut), (vd, vt)] (by simp) _ hP).mono ?_; rintro e w2 ⟨rfl, hb2⟩; obtain ⟨hc2, hf2, hz2⟩ := bel hb2; (try simp only [World.size_drew, World.cell?_drew, World.frozen?_drew, World.heap_drewN, World.cell?_drewN, World.frozen?_drewN] at hc2 hf2 hz2); (try have hl2 : w.heap.size < w2.heap.size := zl hb2); (try have hm2 : w.heap.size + 1 < w2.heap.size := zl hb2); (try have hn2 : w.heap.size + 1 + 1 < w2.heap.size := zl hb2); (try have hp2 : b < w2.heap.size := zl hb2); (try have ho2 : b' < w2.heap.size := by (have hq := hb2.size; (try simp at hq); omega))
    rw [okFs_two, H2.out]
    go_wp2
    go_ret2
    exact ⟨by rw [HK.out.1, HK.out.2, HE.out]; rfl, by repeat (with_reducible first | exact Below.refl _ _ | assumption | refine Bel.alloc ?_ _ | refine Bel.step (by assumption) ?_ | refine Below.drew ?_ | refine Bel.drewN ?_ _ | refine Below.setCell ?_ (by first | exact Nat.le_refl _ | omega | (simp; done) | (simp; omega)) _)⟩
  by_cases h3 : inB mo 0 100000 = true
  rotate_left
  · have h3' : inB mo 0 100000 = false := by simpa using h3
    have HK := Lib.hid (gm_no (C := C) (ud := ud) (ut := ut) (vd := vd) (vt := vt) (mo := mo) (by simp only [gmK, h1, h2, h3']; simp))
    have HE := Lib.hid (show gmK C ud ut vd vt mo = 2 by simp only [gmK, h1, h2, h3']; simp)
    have H2 := Lib.hid h2
    clear h2 h3
    go_enter Tryz.func33, Tryz.ntmps33
    go_wp2_with fail
    go_at_call 69; refine (IsChart_I _ _ _ hn hm _ (by repeat (with_reducible first | exact HA.out | assumption | refine Ints.drew ?_ | refine Ints.drewN _ ?_ | refine Ints.alloc _ ?_ | refine Ints.step (by assumption) ?_))).mono ?_; rintro e w1 ⟨rfl, hb1⟩; obtain ⟨hc1, hf1, hz1⟩ := bel hb1; (try simp only [World.size_drew, World.cell?_drew, World.frozen?_drew, World.heap_drewN, World.cell?_drewN, World.frozen?_drewN] at hc1 hf1 hz1); (try have hl1 : w.heap.size < w1.heap.size := zl hb1); (try have hm1 : w.heap.size + 1 < w1.heap.size := zl hb1); (try have hn1 : w.heap.size + 1 + 1 < w1.heap.size := zl hb1); (try have hp1 : b < w1.heap.size := zl hb1); (try have ho1 : b' < w1.heap.size := by (have hq := hb1.size; (try simp at hq); omega))
    rw [h1]
    have l3 : w.heap.size + 1 + 1 < w1.heap.size := by have := hb1.size; (try simp at this); omega
    have hP := Prs.mk2 w1 25 ud ut vd vt
    go_wp2_with fail
    go_at_call 70; refine (areFigures_c _ 2 [(ud, ut), (vd, vt)] (by simp) _ hP).mono ?_; rintro e w2 ⟨rfl, hb2⟩; obtain ⟨hc2, hf2, hz2⟩ := bel hb2; (try simp only [World.size_drew, World.cell?_drew, World.frozen?_drew, World.heap_drewN, World.cell?_drewN, World.frozen?_drewN] at hc2 hf2 hz2); (try have hl2 : w.heap.size < w2.heap.size := zl hb2); (try have hm2 : w.heap.size + 1 < w2.heap.size := zl hb2); (try have hn2 : w.heap.size + 1 + 1 < w2.heap.size := zl hb2); (try have hp2 : b < w2.heap.size := zl hb2); (try have ho2 : b' < w2.heap.size := by (have hq := hb2.size; (try simp at hq); omega))
    rw [okFs_two, H2.out]
    go_wp2_with fail
    go_at_call 71; refine (within_c _ _ _ _).mono ?_; rintro e w' ⟨rfl, rfl⟩
    rw [h3']
    go_wp2
    go_ret2
    exact ⟨by rw [HK.out.1, HK.out.2, HE.out]; rfl, by repeat (with_reducible first | exact Below.refl _ _ | assumption | refine Bel.alloc ?_ _ | refine Bel.step (by assumption) ?_ | refine Below.drew ?_ | refine Bel.drewN ?_ _ | refine Below.setCell ?_ (by first | exact Nat.le_refl _ | omega | (simp; done) | (simp; omega)) _)⟩
  have HK := Lib.hid (show gmK C ud ut vd vt mo = 0 by simp only [gmK, h1, h2, h3]; simp)
  have HGC := Lib.hid (show gmC C ud ut vd vt mo = (if gmI C ud ut vd vt mo = -1 then 4 else 0) by rw [gmC, if_pos HK.out])
  have HGV := Lib.hid (show gmV C ud ut vd vt mo = (if gmI C ud ut vd vt mo = -1 then 0 else 20000 - 100 * gmI C ud ut vd vt mo) by rw [gmV, if_pos HK.out])
  have H2 := Lib.hid h2
  obtain ⟨_, ⟨z1, z2⟩, _, ⟨a1, a2⟩, ⟨a3, a4⟩, _, _⟩ := okCh_iff h1
  clear h2
  go_enter Tryz.func33, Tryz.ntmps33
  go_wp2_with fail
  go_at_call 69; refine (IsChart_I _ _ _ hn hm _ (by repeat (with_reducible first | exact HA.out | assumption | refine Ints.drew ?_ | refine Ints.drewN _ ?_ | refine Ints.alloc _ ?_ | refine Ints.step (by assumption) ?_))).mono ?_; rintro e w1 ⟨rfl, hb1⟩; obtain ⟨hc1, hf1, hz1⟩ := bel hb1; (try simp only [World.size_drew, World.cell?_drew, World.frozen?_drew, World.heap_drewN, World.cell?_drewN, World.frozen?_drewN] at hc1 hf1 hz1); (try have hl1 : w.heap.size < w1.heap.size := zl hb1); (try have hm1 : w.heap.size + 1 < w1.heap.size := zl hb1); (try have hn1 : w.heap.size + 1 + 1 < w1.heap.size := zl hb1); (try have hp1 : b < w1.heap.size := zl hb1); (try have ho1 : b' < w1.heap.size := by (have hq := hb1.size; (try simp at hq); omega))
  rw [h1]
  have l3 : w.heap.size + 1 + 1 < w1.heap.size := by have := hb1.size; (try simp at this); omega
  have hP := Prs.mk2 w1 25 ud ut vd vt
  go_wp2_with fail
  go_at_call 70; refine (areFigures_c _ 2 [(ud, ut), (vd, vt)] (by simp) _ hP).mono ?_; rintro e w2 ⟨rfl, hb2⟩; obtain ⟨hc2, hf2, hz2⟩ := bel hb2; (try simp only [World.size_drew, World.cell?_drew, World.frozen?_drew, World.heap_drewN, World.cell?_drewN, World.frozen?_drewN] at hc2 hf2 hz2); (try have hl2 : w.heap.size < w2.heap.size := zl hb2); (try have hm2 : w.heap.size + 1 < w2.heap.size := zl hb2); (try have hn2 : w.heap.size + 1 + 1 < w2.heap.size := zl hb2); (try have hp2 : b < w2.heap.size := zl hb2); (try have ho2 : b' < w2.heap.size := by (have hq := hb2.size; (try simp at hq); omega))
  rw [okFs_two, H2.out]
  go_wp2_with fail
  go_at_call 71; refine (within_c _ _ _ _).mono ?_; rintro e w' ⟨rfl, rfl⟩
  rw [h3]
  have hbel2 : Below w.heap.size w w2 := by repeat (with_reducible first | exact Below.refl _ _ | assumption | refine Bel.alloc ?_ _ | refine Bel.step (by assumption) ?_ | refine Below.drew ?_ | refine Bel.drewN ?_ _ | refine Below.setCell ?_ (by first | exact Nat.le_refl _ | omega | (simp; done) | (simp; omega)) _)
  have B0 : Hid (Blk w2 w.heap.size 30 #[.int .i64 C.dg, .int .i64 C.tn, .string C.nm, .slice A C.zs.length c, .int .i64 C.wd, .int .i64 C.lf, .int .i64 C.rt]) := Lib.hid (by
    have h0 := Blk.alloc (.cells #[.int .i64 vd, .int .i64 vt] 25) (Blk.alloc (.cells #[.int .i64 ud, .int .i64 ut] 25) (Blk.new w 30 #[.int .i64 C.dg, .int .i64 C.tn, .string C.nm, .slice A C.zs.length c, .int .i64 C.wd, .int .i64 C.lf, .int .i64 C.rt]))
    exact Blk.step hb2 (Blk.alloc _ (Blk.step hb1 h0)))
  have B1 : Hid (Blk w2 (w.heap.size + 1) 25 #[.int .i64 ud, .int .i64 ut]) := Lib.hid (by
    have h0 := Blk.alloc (.cells #[.int .i64 vd, .int .i64 vt] 25) (Blk.new (w.alloc (.cells #[.int .i64 C.dg, .int .i64 C.tn, .string C.nm, .slice A C.zs.length c, .int .i64 C.wd, .int .i64 C.lf, .int .i64 C.rt] 30)) 25 #[.int .i64 ud, .int .i64 ut])
    simp only [World.size_alloc] at h0
    exact Blk.step hb2 (Blk.alloc _ (Blk.step hb1 h0)))
  have B2 : Hid (Blk w2 (w.heap.size + 1 + 1) 25 #[.int .i64 vd, .int .i64 vt]) := Lib.hid (by
    have h0 := Blk.new ((w.alloc (.cells #[.int .i64 C.dg, .int .i64 C.tn, .string C.nm, .slice A C.zs.length c, .int .i64 C.wd, .int .i64 C.lf, .int .i64 C.rt] 30)).alloc (.cells #[.int .i64 ud, .int .i64 ut] 25)) 25 #[.int .i64 vd, .int .i64 vt]
    simp only [World.size_alloc] at h0
    exact Blk.step hb2 (Blk.alloc _ (Blk.step hb1 h0)))
  clear hb1 hc1 hf1 hz1 hb2 hc2 hf2 hz2
  go_wp2
  go_loopw [10, 11, 12] (fun l _ _ wr => ∃ (k : Nat) (x : Int), k ≤ 200 ∧ l = .int .i64 x ∧ x + 100 * (k : Int) ≤ 20000 ∧ 20000 ≤ x + 100 * (k : Int) ∧ Hid (gmI C ud ut vd vt mo = idxF (gmP C ud ut vd vt mo) ((List.range 200).drop k) k) ∧ Hid (Blk wr w.heap.size 30 #[.int .i64 C.dg, .int .i64 C.tn, .string C.nm, .slice A C.zs.length c, .int .i64 C.wd, .int .i64 C.lf, .int .i64 C.rt]) ∧ Hid (Blk wr (w.heap.size + 1) 25 #[.int .i64 ud, .int .i64 ut]) ∧ Hid (Blk wr (w.heap.size + 1 + 1) 25 #[.int .i64 vd, .int .i64 vt]) ∧ Below w.heap.size w wr) (fun l _ _ _ => (intOf l).toNat)
  case atStart => exact ⟨0, 20000, Nat.zero_le _, rfl, by omega, by omega, Lib.hid rfl, B0, B1, B2, hbel2⟩
  case round =>
    obtain ⟨k, x, hk, rfl, x1, x2, HG, C0, C1, C2, hbel⟩ := hrel
    by_cases hlt : k < 200
    · have hx : 100 ≤ x := by omega
      have hx' : x ≤ 20000 := by omega
      have HS := Lib.hid (gm_here (C := C) (ud := ud) (ut := ut) (vd := vd) (vt := vt) (mo := mo) hlt (show 20000 - 100 * (k : Int) = x by omega))
      have c0 : wr.cell? ⟨w.heap.size, 0, none⟩ = some (.int .i64 C.dg) := by rw [C0.out.cell]; rfl
      have c1 : wr.cell? ⟨w.heap.size, 1, none⟩ = some (.int .i64 C.tn) := by rw [C0.out.cell]; rfl
      have c2 : wr.cell? ⟨w.heap.size, 2, none⟩ = some (.string C.nm) := by rw [C0.out.cell]; rfl
      have c3 : wr.cell? ⟨w.heap.size, 3, none⟩ = some (.slice A C.zs.length c) := by rw [C0.out.cell]; rfl
      have c4 : wr.cell? ⟨w.heap.size, 4, none⟩ = some (.int .i64 C.wd) := by rw [C0.out.cell]; rfl
      have c5 : wr.cell? ⟨w.heap.size, 5, none⟩ = some (.int .i64 C.lf) := by rw [C0.out.cell]; rfl
      have c6 : wr.cell? ⟨w.heap.size, 6, none⟩ = some (.int .i64 C.rt) := by rw [C0.out.cell]; rfl
      have u0 : wr.cell? ⟨w.heap.size + 1, 0, none⟩ = some (.int .i64 ud) := by rw [C1.out.cell]; rfl
      have u1 : wr.cell? ⟨w.heap.size + 1, 1, none⟩ = some (.int .i64 ut) := by rw [C1.out.cell]; rfl
      have v0 : wr.cell? ⟨w.heap.size + 1 + 1, 0, none⟩ = some (.int .i64 vd) := by rw [C2.out.cell]; rfl
      have v1 : wr.cell? ⟨w.heap.size + 1 + 1, 1, none⟩ = some (.int .i64 vt) := by rw [C2.out.cell]; rfl
      have k0 := C0.out.lt
      have k1 := C1.out.lt
      have k2 := C2.out.lt
      have HI := Lib.hid (Ints.step hbel HA.out)
      have hz0 : 0 < C.zs.length := by omega
      by_cases hc : chC (gmD C x) 0 ud ut vd vt = 0
      · by_cases hv : chV (gmD C x) 0 ud ut vd vt ≤ mo
        · have HR := Lib.hid (show gmI C ud ut vd vt mo = (k : Int) by rw [HG.out, HS.out]; simp [hc, hv])
          have HV := Lib.hid (show gmC C ud ut vd vt mo = 0 ∧ gmV C ud ut vd vt mo = x by rw [HGC.out, HGV.out, HR.out, if_neg (by omega), if_neg (by omega)]; exact ⟨rfl, by omega⟩)
          have HCC := Lib.hid hc
          clear hc
          go_wp2
          go_region_held3 (fun w' => (w'.cell? ⟨w.heap.size, 0, none⟩ = some (.int .i64 C.dg) ∧ w'.cell? ⟨w.heap.size, 1, none⟩ = some (.int .i64 C.tn) ∧ w'.cell? ⟨w.heap.size, 2, none⟩ = some (.string C.nm) ∧ w'.cell? ⟨w.heap.size, 3, none⟩ = some (.slice A C.zs.length c) ∧ w'.cell? ⟨w.heap.size, 4, none⟩ = some (.int .i64 C.wd) ∧ w'.cell? ⟨w.heap.size, 5, none⟩ = some (.int .i64 C.lf) ∧ w'.cell? ⟨w.heap.size, 6, none⟩ = some (.int .i64 C.rt)) ∧ w'.cell? ⟨w.heap.size + 1, 0, none⟩ = some (.int .i64 ud) ∧ w'.cell? ⟨w.heap.size + 1, 1, none⟩ = some (.int .i64 ut) ∧ w'.cell? ⟨w.heap.size + 1 + 1, 0, none⟩ = some (.int .i64 vd) ∧ w'.cell? ⟨w.heap.size + 1 + 1, 1, none⟩ = some (.int .i64 vt)) (simp [go_sem, *])
              (first | (go_at_call 83; refine (withModuli_c C A c x C.rt hz0 hn _ (by repeat (with_reducible first | exact HI.out | assumption | refine Ints.drew ?_ | refine Ints.drewN _ ?_ | refine Ints.alloc _ ?_ | refine Ints.step (by assumption) ?_))).mono ?_; rintro e wa ⟨Aa, kka, rfl, hOa, hba⟩; obtain ⟨hca, hfa, hza⟩ := bel hba; (try simp only [World.size_drew, World.cell?_drew, World.frozen?_drew, World.heap_drewN, World.cell?_drewN, World.frozen?_drewN] at hca hfa hza); (try have hla : w.heap.size < wa.heap.size := zl hba); (try have hma : w.heap.size + 1 < wa.heap.size := zl hba); (try have hna : w.heap.size + 1 + 1 < wa.heap.size := zl hba); (try have hpa : b < wa.heap.size := zl hba); (try have hoa : b' < wa.heap.size := by (have hq := hba.size; (try simp at hq); omega))) | (go_at_call 39; refine (ChartHeight_I (gmD C x) _ _ 0 ud ut vd vt hn hm _ (show Ints _ _ C.zs from by repeat (with_reducible first | exact hOa.ints | refine Ints.drewN _ ?_ | refine Ints.drew ?_ | refine Ints.alloc _ ?_))).mono ?_; rintro e wx ⟨rfl, hbx⟩; obtain ⟨hcx, hfx, hzx⟩ := bel hbx; (try simp only [World.size_drew, World.cell?_drew, World.frozen?_drew, World.heap_drewN, World.cell?_drewN, World.frozen?_drewN] at hcx hfx hzx); (try have hlx : w.heap.size < wx.heap.size := zl hbx); (try have hmx : w.heap.size + 1 < wx.heap.size := zl hbx); (try have hnx : w.heap.size + 1 + 1 < wx.heap.size := zl hbx); (try have hpx : b < wx.heap.size := zl hbx); (try have hox : b' < wx.heap.size := by (have hq := hbx.size; (try simp at hq); omega))))
          have hbW : Below wr.heap.size wr wx := by repeat (with_reducible first | exact Below.refl _ _ | assumption | refine Bel.alloc ?_ _ | refine Bel.step (by assumption) ?_ | refine Below.drew ?_ | refine Bel.drewN ?_ _ | refine Below.setCell ?_ (by first | exact Nat.le_refl _ | omega | (simp; done) | (simp; omega)) _)
          have HB := Lib.hid (And.intro (Blk.step hbW C0.out) (And.intro (Blk.step hbW C1.out) (Blk.step hbW C2.out)))
          have hbelW := Bel.step hbW hbel
          rw [HCC.out]
          go_wp2
          go_ret2
          exact ⟨by rw [HV.out.1, HV.out.2]; rfl, by repeat (with_reducible first | exact Below.refl _ _ | assumption | refine Bel.alloc ?_ _ | refine Bel.step (by assumption) ?_ | refine Below.drew ?_ | refine Bel.drewN ?_ _ | refine Below.setCell ?_ (by first | exact Nat.le_refl _ | omega | (simp; done) | (simp; omega)) _)⟩
        · have HR := Lib.hid (show gmI C ud ut vd vt mo = idxF (gmP C ud ut vd vt mo) ((List.range 200).drop (k + 1)) (k + 1) by rw [HG.out, HS.out]; simp [hv])
          have HCC := Lib.hid hc
          clear hc
          go_wp2
          go_region_held3 (fun w' => (w'.cell? ⟨w.heap.size, 0, none⟩ = some (.int .i64 C.dg) ∧ w'.cell? ⟨w.heap.size, 1, none⟩ = some (.int .i64 C.tn) ∧ w'.cell? ⟨w.heap.size, 2, none⟩ = some (.string C.nm) ∧ w'.cell? ⟨w.heap.size, 3, none⟩ = some (.slice A C.zs.length c) ∧ w'.cell? ⟨w.heap.size, 4, none⟩ = some (.int .i64 C.wd) ∧ w'.cell? ⟨w.heap.size, 5, none⟩ = some (.int .i64 C.lf) ∧ w'.cell? ⟨w.heap.size, 6, none⟩ = some (.int .i64 C.rt)) ∧ w'.cell? ⟨w.heap.size + 1, 0, none⟩ = some (.int .i64 ud) ∧ w'.cell? ⟨w.heap.size + 1, 1, none⟩ = some (.int .i64 ut) ∧ w'.cell? ⟨w.heap.size + 1 + 1, 0, none⟩ = some (.int .i64 vd) ∧ w'.cell? ⟨w.heap.size + 1 + 1, 1, none⟩ = some (.int .i64 vt)) (simp [go_sem, *])
              (first | (go_at_call 83; refine (withModuli_c C A c x C.rt hz0 hn _ (by repeat (with_reducible first | exact HI.out | assumption | refine Ints.drew ?_ | refine Ints.drewN _ ?_ | refine Ints.alloc _ ?_ | refine Ints.step (by assumption) ?_))).mono ?_; rintro e wa ⟨Aa, kka, rfl, hOa, hba⟩; obtain ⟨hca, hfa, hza⟩ := bel hba; (try simp only [World.size_drew, World.cell?_drew, World.frozen?_drew, World.heap_drewN, World.cell?_drewN, World.frozen?_drewN] at hca hfa hza); (try have hla : w.heap.size < wa.heap.size := zl hba); (try have hma : w.heap.size + 1 < wa.heap.size := zl hba); (try have hna : w.heap.size + 1 + 1 < wa.heap.size := zl hba); (try have hpa : b < wa.heap.size := zl hba); (try have hoa : b' < wa.heap.size := by (have hq := hba.size; (try simp at hq); omega))) | (go_at_call 39; refine (ChartHeight_I (gmD C x) _ _ 0 ud ut vd vt hn hm _ (show Ints _ _ C.zs from by repeat (with_reducible first | exact hOa.ints | refine Ints.drewN _ ?_ | refine Ints.drew ?_ | refine Ints.alloc _ ?_))).mono ?_; rintro e wx ⟨rfl, hbx⟩; obtain ⟨hcx, hfx, hzx⟩ := bel hbx; (try simp only [World.size_drew, World.cell?_drew, World.frozen?_drew, World.heap_drewN, World.cell?_drewN, World.frozen?_drewN] at hcx hfx hzx); (try have hlx : w.heap.size < wx.heap.size := zl hbx); (try have hmx : w.heap.size + 1 < wx.heap.size := zl hbx); (try have hnx : w.heap.size + 1 + 1 < wx.heap.size := zl hbx); (try have hpx : b < wx.heap.size := zl hbx); (try have hox : b' < wx.heap.size := by (have hq := hbx.size; (try simp at hq); omega))))
          have hbW : Below wr.heap.size wr wx := by repeat (with_reducible first | exact Below.refl _ _ | assumption | refine Bel.alloc ?_ _ | refine Bel.step (by assumption) ?_ | refine Below.drew ?_ | refine Bel.drewN ?_ _ | refine Below.setCell ?_ (by first | exact Nat.le_refl _ | omega | (simp; done) | (simp; omega)) _)
          have HB := Lib.hid (And.intro (Blk.step hbW C0.out) (And.intro (Blk.step hbW C1.out) (Blk.step hbW C2.out)))
          have hbelW := Bel.step hbW hbel
          rw [HCC.out]
          go_wp2
          go_roundw
          case rel => exact ⟨k + 1, x - 100, by omega, rfl, by omega, by omega, HR, Lib.hid HB.out.1, Lib.hid HB.out.2.1, Lib.hid HB.out.2.2, hbelW⟩
          case measure => simp [intOf]; omega
      · have HR := Lib.hid (show gmI C ud ut vd vt mo = idxF (gmP C ud ut vd vt mo) ((List.range 200).drop (k + 1)) (k + 1) by rw [HG.out, HS.out]; simp [hc])
        have b1 : (chC (gmD C x) 0 ud ut vd vt == 0) = false := by simpa using hc
        clear hc
        go_wp2
        go_region_held3 (fun w' => (w'.cell? ⟨w.heap.size, 0, none⟩ = some (.int .i64 C.dg) ∧ w'.cell? ⟨w.heap.size, 1, none⟩ = some (.int .i64 C.tn) ∧ w'.cell? ⟨w.heap.size, 2, none⟩ = some (.string C.nm) ∧ w'.cell? ⟨w.heap.size, 3, none⟩ = some (.slice A C.zs.length c) ∧ w'.cell? ⟨w.heap.size, 4, none⟩ = some (.int .i64 C.wd) ∧ w'.cell? ⟨w.heap.size, 5, none⟩ = some (.int .i64 C.lf) ∧ w'.cell? ⟨w.heap.size, 6, none⟩ = some (.int .i64 C.rt)) ∧ w'.cell? ⟨w.heap.size + 1, 0, none⟩ = some (.int .i64 ud) ∧ w'.cell? ⟨w.heap.size + 1, 1, none⟩ = some (.int .i64 ut) ∧ w'.cell? ⟨w.heap.size + 1 + 1, 0, none⟩ = some (.int .i64 vd) ∧ w'.cell? ⟨w.heap.size + 1 + 1, 1, none⟩ = some (.int .i64 vt)) (simp [go_sem, *])
            (first | (go_at_call 83; refine (withModuli_c C A c x C.rt hz0 hn _ (by repeat (with_reducible first | exact HI.out | assumption | refine Ints.drew ?_ | refine Ints.drewN _ ?_ | refine Ints.alloc _ ?_ | refine Ints.step (by assumption) ?_))).mono ?_; rintro e wa ⟨Aa, kka, rfl, hOa, hba⟩; obtain ⟨hca, hfa, hza⟩ := bel hba; (try simp only [World.size_drew, World.cell?_drew, World.frozen?_drew, World.heap_drewN, World.cell?_drewN, World.frozen?_drewN] at hca hfa hza); (try have hla : w.heap.size < wa.heap.size := zl hba); (try have hma : w.heap.size + 1 < wa.heap.size := zl hba); (try have hna : w.heap.size + 1 + 1 < wa.heap.size := zl hba); (try have hpa : b < wa.heap.size := zl hba); (try have hoa : b' < wa.heap.size := by (have hq := hba.size; (try simp at hq); omega))) | (go_at_call 39; refine (ChartHeight_I (gmD C x) _ _ 0 ud ut vd vt hn hm _ (show Ints _ _ C.zs from by repeat (with_reducible first | exact hOa.ints | refine Ints.drewN _ ?_ | refine Ints.drew ?_ | refine Ints.alloc _ ?_))).mono ?_; rintro e wx ⟨rfl, hbx⟩; obtain ⟨hcx, hfx, hzx⟩ := bel hbx; (try simp only [World.size_drew, World.cell?_drew, World.frozen?_drew, World.heap_drewN, World.cell?_drewN, World.frozen?_drewN] at hcx hfx hzx); (try have hlx : w.heap.size < wx.heap.size := zl hbx); (try have hmx : w.heap.size + 1 < wx.heap.size := zl hbx); (try have hnx : w.heap.size + 1 + 1 < wx.heap.size := zl hbx); (try have hpx : b < wx.heap.size := zl hbx); (try have hox : b' < wx.heap.size := by (have hq := hbx.size; (try simp at hq); omega))))
        have hbW : Below wr.heap.size wr wx := by repeat (with_reducible first | exact Below.refl _ _ | assumption | refine Bel.alloc ?_ _ | refine Bel.step (by assumption) ?_ | refine Below.drew ?_ | refine Bel.drewN ?_ _ | refine Below.setCell ?_ (by first | exact Nat.le_refl _ | omega | (simp; done) | (simp; omega)) _)
        have HB := Lib.hid (And.intro (Blk.step hbW C0.out) (And.intro (Blk.step hbW C1.out) (Blk.step hbW C2.out)))
        have hbelW := Bel.step hbW hbel
        go_wp2
        go_roundw
        case rel => exact ⟨k + 1, x - 100, by omega, rfl, by omega, by omega, HR, Lib.hid HB.out.1, Lib.hid HB.out.2.1, Lib.hid HB.out.2.2, hbelW⟩
        case measure => simp [intOf]; omega
    · obtain rfl : k = 200 := by omega
      have HX := Lib.hid (HG.out.trans (gm_end C ud ut vd vt mo (Nat.le_refl _)))
      have hx : x < 100 := by omega
      go_wp2
      go_ret2
      exact ⟨by rw [HGC.out, HGV.out, HX.out]; rfl, by repeat (with_reducible first | exact Below.refl _ _ | assumption | refine Bel.alloc ?_ _ | refine Bel.step (by assumption) ?_ | refine Below.drew ?_ | refine Bel.drewN ?_ _ | refine Below.setCell ?_ (by first | exact Nat.le_refl _ | omega | (simp; done) | (simp; omega)) _)⟩
end Go.Proofs.YtpmcgicopogbhaaGreat
