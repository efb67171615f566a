/- The statement FnModels, walked. No conditions. -/
import Derived.Test.YtpmcgicopogbhaaProg
import Derived.Test.YtpmcgicopogbhaaBase
import Derived.Test.YtpmcgicopogbhaaRw
import Derived.Test.YtpmcgicopogbhaaRg
import Derived.Test.YtpmcgicopogbhaaL01
import Derived.Test.YtpmcgicopogbhaaCp
import Derived.Test.YtpmcgicopogbhaaL18
import Derived.Test.YtpmcgicopogbhaaL23
import Derived.Test.YtpmcgicopogbhaaL28
import Derived.Test.YtpmcgicopogbhaaL28b
import Derived.Test.YtpmcgicopogbhaaL28c
import Derived.Test.YtpmcgicopogbhaaL28d
import Derived.Test.YtpmcgicopogbhaaL03
import Derived.Test.YtpmcgicopogbhaaL04
import Derived.Test.YtpmcgicopogbhaaL05
import Derived.Test.YtpmcgicopogbhaaL05b
import Derived.Test.YtpmcgicopogbhaaL06
import Derived.Test.YtpmcgicopogbhaaL28w
import Derived.Test.YtpmcgicopogbhaaP28m
import Derived.Test.YtpmcgicopogbhaaE24
import Derived.Test.YtpmcgicopogbhaaE23
import Derived.Test.YtpmcgicopogbhaaE25
import Derived.Test.YtpmcgicopogbhaaD00
import Derived.Test.YtpmcgicopogbhaaD01
import Derived.Test.YtpmcgicopogbhaaD28
import Derived.Test.YtpmcgicopogbhaaD28m
import Derived.Test.YtpmcgicopogbhaaDc
import Derived.WalkKit
import Derived.WalkSpells
import Derived.WalkLawsBesides
import Derived.Lib.Hide
import Derived.Deep.QuietTactic
import Derived.BigQuiet
import Derived.Deep.Draws
import Derived.Deep.RegionHeld3
import Derived.Deep.Cut
namespace Go.Proofs.Ytpmcgicopogbhaa
open Go.RowKit
set_option linter.unusedVariables false
set_option linter.unusedSimpArgs false
set_option maxRecDepth 50000 in
set_option maxHeartbeats 64000000 in
theorem FnModels_w (w : World) (A : Option Addr) (c : Nat) (zs : List Int) (hl : zs.length ≤ 9223372036854775807) (hA : Byts w A zs) :
    Calls Try.prog 6 #[.slice A zs.length c] w fun e w' => e = .returned (.bool true) ∧ Below w.heap.size w w' := by
  have HB := Lib.hid (Below.refl w.heap.size w)
  by_cases hz : zs.length ≤ 4096
  rotate_left
  · go_enter Try.func6, Try.ntmps6
    go_wp2_with fail
    go_at_call 8; refine (big_yes A c zs.length (by omega) _).mono ?_; rintro e w' ⟨rfl, rfl⟩
    go_wp2
    go_ret
    exact ⟨rfl, HB.out⟩
  have HA := Lib.hid hA
  clear hA hl
  go_enter Try.func6, Try.ntmps6
  go_wp2_with fail
  go_at_call 8; refine (big_no A c zs.length hz _).mono ?_; rintro e w' ⟨rfl, rfl⟩
  go_wp2_with fail
  go_at_call 40; refine (DrawBestModel_c A c zs hz _ HA.out).mono ?_; rintro e w1 ⟨ts, g, q, st, rfl, hn, hO, hb1⟩; have hka := Bel.ka HB.out hb1 (by repeat (with_reducible first | exact Below.refl _ _ | refine Bel.alloc ?_ _ | refine Below.drew ?_ | refine Bel.drewN ?_ _)); (try (replace HA := Lib.hid (Byts.step hb1 (Byts.step hka HA.out)))); replace HB := Lib.hid (Bel.step hb1 (Bel.step hka HB.out)); have hsz1 := hb1.size; have hsy1 := hka.size; (try simp only [World.size_alloc, World.size_drew, World.heap_drewN, World.size_setCell] at hsz1 hsy1); clear hka hb1
  clear hsz1 hsy1
  have HL := Lib.hid hO.prs
  clear hO
  go_wp2_with fail
  go_at_call 41; refine (BestModel_I st (some ⟨g, 0, none⟩) q ts (by omega) _ (by repeat (with_reducible first | exact HL.out | assumption | refine Prs.drew ?_ | refine Prs.drewN _ ?_ | refine Prs.alloc _ ?_ | refine Prs.step (by assumption) ?_))).mono ?_; rintro e w2 ⟨rfl, hb2⟩; have hka := Bel.ka HB.out hb2 (by repeat (with_reducible first | exact Below.refl _ _ | refine Bel.alloc ?_ _ | refine Below.drew ?_ | refine Bel.drewN ?_ _)); (try (replace HA := Lib.hid (Byts.step hb2 (Byts.step hka HA.out)))); (try (replace HL := Lib.hid (Prs.step hb2 (Prs.step hka HL.out)))); replace HB := Lib.hid (Bel.step hb2 (Bel.step hka HB.out)); have hsz2 := hb2.size; have hsy2 := hka.size; (try simp only [World.size_alloc, World.size_drew, World.heap_drewN, World.size_setCell] at hsz2 hsy2); clear hka hb2
  clear hsz2 hsy2
  have hbm := fun h => bm_facts (step := st) (zs := ts) h
  obtain ⟨m0, hm0⟩ : ∃ k, k = bmS st ts := ⟨_, rfl⟩
  obtain ⟨m1, hm1⟩ : ∃ k, k = bmZ st ts := ⟨_, rfl⟩
  obtain ⟨n, hn⟩ : ∃ k, k = bmF st ts := ⟨_, rfl⟩
  obtain ⟨k, hk⟩ : ∃ k, k = bmC st ts := ⟨_, rfl⟩
  rw [← hm0, ← hm1, ← hn, ← hk] at hbm ⊢
  have HK := Lib.hid (And.intro hm0 (And.intro hm1 (And.intro hn hk)))
  clear hm0 hm1 hn hk
  have HBM := Lib.hid hbm
  clear hbm
  have HM1 := Lib.hid (by have h := Blk.new w2 73 #[.int .i64 m0, .int .i64 m1]; (try simp only [World.size_alloc] at h); exact h)
  replace HA := Lib.hid (Byts.alloc (.cells #[.int .i64 m0, .int .i64 m1] 73) HA.out)
  replace HL := Lib.hid (Prs.alloc (.cells #[.int .i64 m0, .int .i64 m1] 73) HL.out)
  replace HB := Lib.hid (Bel.alloc HB.out (.cells #[.int .i64 m0, .int .i64 m1] 73))
  go_wp2_with fail
  go_at_call 42; refine (BestModel_S st (some ⟨g, 0, none⟩) q ts (by omega) _ (by repeat (with_reducible first | exact HL.out | assumption | refine Prs.drew ?_ | refine Prs.drewN _ ?_ | refine Prs.alloc _ ?_ | refine Prs.step (by assumption) ?_))).mono ?_; rintro e w3 ⟨rfl, hb3⟩; have hka := Bel.ka HB.out hb3 (by repeat (with_reducible first | exact Below.refl _ _ | refine Bel.alloc ?_ _ | refine Below.drew ?_ | refine Bel.drewN ?_ _)); (try (replace HA := Lib.hid (Byts.step hb3 (Byts.step hka HA.out)))); (try (replace HL := Lib.hid (Prs.step hb3 (Prs.step hka HL.out)))); (try (replace HM1 := Lib.hid (Blk.step hb3 (Blk.step hka HM1.out)))); replace HB := Lib.hid (Bel.step hb3 (Bel.step hka HB.out)); have hsz3 := hb3.size; have hsy3 := hka.size; (try simp only [World.size_alloc, World.size_drew, World.heap_drewN, World.size_setCell] at hsz3 hsy3); clear hka hb3
  clear hsz3 hsy3
  rw [← HK.out.1, ← HK.out.2.1, ← HK.out.2.2.1, ← HK.out.2.2.2]
  clear HK
  have HM2 := Lib.hid (by have h := Blk.new w3 73 #[.int .i64 m0, .int .i64 m1]; (try simp only [World.size_alloc] at h); exact h)
  replace HA := Lib.hid (Byts.alloc (.cells #[.int .i64 m0, .int .i64 m1] 73) HA.out)
  replace HL := Lib.hid (Prs.alloc (.cells #[.int .i64 m0, .int .i64 m1] 73) HL.out)
  replace HM1 := Lib.hid (Blk.alloc (.cells #[.int .i64 m0, .int .i64 m1] 73) HM1.out)
  replace HB := Lib.hid (Bel.alloc HB.out (.cells #[.int .i64 m0, .int .i64 m1] 73))
  go_wp2_with fail
  go_at_call 43; refine (DrawCorrectPlace_c A c zs hz _ (Byts.step (by repeat (with_reducible first | exact Below.refl _ _ | refine Bel.alloc ?_ _)) HA.out)).mono ?_; rintro e w4 ⟨ax, ay, an, rfl, hb4⟩; have hka := Bel.ka HB.out hb4 (by repeat (with_reducible first | exact Below.refl _ _ | refine Bel.alloc ?_ _ | refine Below.drew ?_ | refine Bel.drewN ?_ _)); (try (replace HA := Lib.hid (Byts.step hb4 (Byts.step hka HA.out)))); (try (replace HL := Lib.hid (Prs.step hb4 (Prs.step hka HL.out)))); (try (replace HM1 := Lib.hid (Blk.step hb4 (Blk.step hka HM1.out)))); (try (replace HM2 := Lib.hid (Blk.step hb4 (Blk.step hka HM2.out)))); replace HB := Lib.hid (Bel.step hb4 (Bel.step hka HB.out)); have hsz4 := hb4.size; have hsy4 := hka.size; (try simp only [World.size_alloc, World.size_drew, World.heap_drewN, World.size_setCell] at hsz4 hsy4); clear hka hb4
  clear hsz4 hsy4
  have HA1 := Lib.hid (by have h := Blk.new w4 73 #[.int .i64 ax, .int .i64 ay]; (try simp only [World.size_alloc] at h); exact h)
  replace HA := Lib.hid (Byts.alloc (.cells #[.int .i64 ax, .int .i64 ay] 73) HA.out)
  replace HL := Lib.hid (Prs.alloc (.cells #[.int .i64 ax, .int .i64 ay] 73) HL.out)
  replace HM1 := Lib.hid (Blk.alloc (.cells #[.int .i64 ax, .int .i64 ay] 73) HM1.out)
  replace HM2 := Lib.hid (Blk.alloc (.cells #[.int .i64 ax, .int .i64 ay] 73) HM2.out)
  replace HB := Lib.hid (Bel.alloc HB.out (.cells #[.int .i64 ax, .int .i64 ay] 73))
  have x0 : ((w4.alloc (.cells #[.int .i64 ax, .int .i64 ay] 73))).cell? ⟨w4.heap.size, 0, none⟩ = some (.int .i64 ax) := by rw [HA1.out.cell]; rfl
  have x1 : ((w4.alloc (.cells #[.int .i64 ax, .int .i64 ay] 73))).cell? ⟨w4.heap.size, 1, none⟩ = some (.int .i64 ay) := by rw [HA1.out.cell]; rfl
  go_wp2_with fail
  go_at_call 44; refine (CorrectPlace_I ax ay an _).mono ?_; rintro e w5 ⟨rfl, hb5⟩; have hka := Bel.ka HB.out hb5 (by repeat (with_reducible first | exact Below.refl _ _ | refine Bel.alloc ?_ _ | refine Below.drew ?_ | refine Bel.drewN ?_ _)); (try (replace HA := Lib.hid (Byts.step hb5 (Byts.step hka HA.out)))); (try (replace HL := Lib.hid (Prs.step hb5 (Prs.step hka HL.out)))); (try (replace HM1 := Lib.hid (Blk.step hb5 (Blk.step hka HM1.out)))); (try (replace HM2 := Lib.hid (Blk.step hb5 (Blk.step hka HM2.out)))); (try (replace HA1 := Lib.hid (Blk.step hb5 (Blk.step hka HA1.out)))); replace HB := Lib.hid (Bel.step hb5 (Bel.step hka HB.out)); have hsz5 := hb5.size; have hsy5 := hka.size; (try simp only [World.size_alloc, World.size_drew, World.heap_drewN, World.size_setCell] at hsz5 hsy5); clear hka hb5
  clear hsz5 hsy5
  clear x0 x1
  have hcp := fun h => corr_facts (s := ax) (z := ay) (n := an) h
  obtain ⟨p, hp⟩ : ∃ k, k = corrV ax ay an := ⟨_, rfl⟩
  obtain ⟨kc, hkc⟩ : ∃ k, k = corrE ax ay an := ⟨_, rfl⟩
  rw [← hp, ← hkc] at hcp ⊢
  have HK := Lib.hid (And.intro hp hkc)
  clear hp hkc
  have HCP := Lib.hid hcp
  clear hcp
  have x0 : (w5).cell? ⟨w4.heap.size, 0, none⟩ = some (.int .i64 ax) := by rw [HA1.out.cell]; rfl
  have x1 : (w5).cell? ⟨w4.heap.size, 1, none⟩ = some (.int .i64 ay) := by rw [HA1.out.cell]; rfl
  go_wp2_with fail
  go_at_call 45; refine (CorrectPlace_S ax ay an _).mono ?_; rintro e w6 ⟨rfl, hb6⟩; have hka := Bel.ka HB.out hb6 (by repeat (with_reducible first | exact Below.refl _ _ | refine Bel.alloc ?_ _ | refine Below.drew ?_ | refine Bel.drewN ?_ _)); (try (replace HA := Lib.hid (Byts.step hb6 (Byts.step hka HA.out)))); (try (replace HL := Lib.hid (Prs.step hb6 (Prs.step hka HL.out)))); (try (replace HM1 := Lib.hid (Blk.step hb6 (Blk.step hka HM1.out)))); (try (replace HM2 := Lib.hid (Blk.step hb6 (Blk.step hka HM2.out)))); (try (replace HA1 := Lib.hid (Blk.step hb6 (Blk.step hka HA1.out)))); replace HB := Lib.hid (Bel.step hb6 (Bel.step hka HB.out)); have hsz6 := hb6.size; have hsy6 := hka.size; (try simp only [World.size_alloc, World.size_drew, World.heap_drewN, World.size_setCell] at hsz6 hsy6); clear hka hb6
  clear hsz6 hsy6
  clear x0 x1
  rw [← HK.out.1, ← HK.out.2]
  clear HK
  go_wp2_with fail
  go_at_call 46; refine (DrawFarTests_c A c zs hz _ HA.out).mono ?_; rintro e w7 ⟨bx, by_, ls, gl, ql, lim, rfl, hln, hO, hb7⟩; have hka := Bel.ka HB.out hb7 (by repeat (with_reducible first | exact Below.refl _ _ | refine Bel.alloc ?_ _ | refine Below.drew ?_ | refine Bel.drewN ?_ _)); (try (replace HA := Lib.hid (Byts.step hb7 (Byts.step hka HA.out)))); (try (replace HL := Lib.hid (Prs.step hb7 (Prs.step hka HL.out)))); (try (replace HM1 := Lib.hid (Blk.step hb7 (Blk.step hka HM1.out)))); (try (replace HM2 := Lib.hid (Blk.step hb7 (Blk.step hka HM2.out)))); (try (replace HA1 := Lib.hid (Blk.step hb7 (Blk.step hka HA1.out)))); replace HB := Lib.hid (Bel.step hb7 (Bel.step hka HB.out)); have hsz7 := hb7.size; have hsy7 := hka.size; (try simp only [World.size_alloc, World.size_drew, World.heap_drewN, World.size_setCell] at hsz7 hsy7); clear hka hb7
  clear hsz7 hsy7
  have HL2 := Lib.hid hO.prs
  clear hO
  have HN := Lib.hid (by have h := Blk.new w7 73 #[.int .i64 bx, .int .i64 by_]; (try simp only [World.size_alloc] at h); exact h)
  replace HA := Lib.hid (Byts.alloc (.cells #[.int .i64 bx, .int .i64 by_] 73) HA.out)
  replace HL := Lib.hid (Prs.alloc (.cells #[.int .i64 bx, .int .i64 by_] 73) HL.out)
  replace HM1 := Lib.hid (Blk.alloc (.cells #[.int .i64 bx, .int .i64 by_] 73) HM1.out)
  replace HM2 := Lib.hid (Blk.alloc (.cells #[.int .i64 bx, .int .i64 by_] 73) HM2.out)
  replace HA1 := Lib.hid (Blk.alloc (.cells #[.int .i64 bx, .int .i64 by_] 73) HA1.out)
  replace HL2 := Lib.hid (Prs.alloc (.cells #[.int .i64 bx, .int .i64 by_] 73) HL2.out)
  replace HB := Lib.hid (Bel.alloc HB.out (.cells #[.int .i64 bx, .int .i64 by_] 73))
  have x0 : ((w7.alloc (.cells #[.int .i64 bx, .int .i64 by_] 73))).cell? ⟨w7.heap.size, 0, none⟩ = some (.int .i64 bx) := by rw [HN.out.cell]; rfl
  have x1 : ((w7.alloc (.cells #[.int .i64 bx, .int .i64 by_] 73))).cell? ⟨w7.heap.size, 1, none⟩ = some (.int .i64 by_) := by rw [HN.out.cell]; rfl
  go_wp2_with fail
  go_at_call 47; refine (FarTests_I bx by_ lim (some ⟨gl, 0, none⟩) ql ls (by omega) _ (by repeat (with_reducible first | exact HL2.out | assumption | refine Prs.drew ?_ | refine Prs.drewN _ ?_ | refine Prs.alloc _ ?_ | refine Prs.step (by assumption) ?_))).mono ?_; rintro e w8 ⟨A1, c1, rfl, hO1, hb8⟩; have hka := Bel.ka HB.out hb8 (by repeat (with_reducible first | exact Below.refl _ _ | refine Bel.alloc ?_ _ | refine Below.drew ?_ | refine Bel.drewN ?_ _)); (try (replace HA := Lib.hid (Byts.step hb8 (Byts.step hka HA.out)))); (try (replace HL := Lib.hid (Prs.step hb8 (Prs.step hka HL.out)))); (try (replace HM1 := Lib.hid (Blk.step hb8 (Blk.step hka HM1.out)))); (try (replace HM2 := Lib.hid (Blk.step hb8 (Blk.step hka HM2.out)))); (try (replace HA1 := Lib.hid (Blk.step hb8 (Blk.step hka HA1.out)))); (try (replace HL2 := Lib.hid (Prs.step hb8 (Prs.step hka HL2.out)))); (try (replace HN := Lib.hid (Blk.step hb8 (Blk.step hka HN.out)))); replace HB := Lib.hid (Bel.step hb8 (Bel.step hka HB.out)); have hsz8 := hb8.size; have hsy8 := hka.size; (try simp only [World.size_alloc, World.size_drew, World.heap_drewN, World.size_setCell] at hsz8 hsy8); clear hka hb8
  clear hsz8 hsy8
  clear x0 x1
  have hff := fun h => far_fit (s := bx) (z := by_) (lim := lim) (zs := ls) h
  have hfl : (farL bx by_ lim ls).length ≤ 1048576 := Nat.le_trans (far_len bx by_ lim ls) (by omega)
  obtain ⟨FL, hFL⟩ : ∃ k, k = farL bx by_ lim ls := ⟨_, rfl⟩
  obtain ⟨kf, hkf⟩ : ∃ k, k = farC bx by_ lim ls := ⟨_, rfl⟩
  rw [← hFL, ← hkf] at hff
  rw [← hFL] at hO1 hfl
  rw [← hFL, ← hkf]
  have HK := Lib.hid (And.intro hFL hkf)
  have HFF := Lib.hid hff
  clear hFL hkf hff
  have HI1 := Lib.hid hO1.ints
  clear hO1
  have x0 : (w8).cell? ⟨w7.heap.size, 0, none⟩ = some (.int .i64 bx) := by rw [HN.out.cell]; rfl
  have x1 : (w8).cell? ⟨w7.heap.size, 1, none⟩ = some (.int .i64 by_) := by rw [HN.out.cell]; rfl
  go_wp2_with fail
  go_at_call 48; refine (FarTests_S bx by_ lim (some ⟨gl, 0, none⟩) ql ls (by omega) _ (by repeat (with_reducible first | exact HL2.out | assumption | refine Prs.drew ?_ | refine Prs.drewN _ ?_ | refine Prs.alloc _ ?_ | refine Prs.step (by assumption) ?_))).mono ?_; rintro e w9 ⟨A2, c2, rfl, hO2, hb9⟩; have hka := Bel.ka HB.out hb9 (by repeat (with_reducible first | exact Below.refl _ _ | refine Bel.alloc ?_ _ | refine Below.drew ?_ | refine Bel.drewN ?_ _)); (try (replace HA := Lib.hid (Byts.step hb9 (Byts.step hka HA.out)))); (try (replace HL := Lib.hid (Prs.step hb9 (Prs.step hka HL.out)))); (try (replace HM1 := Lib.hid (Blk.step hb9 (Blk.step hka HM1.out)))); (try (replace HM2 := Lib.hid (Blk.step hb9 (Blk.step hka HM2.out)))); (try (replace HA1 := Lib.hid (Blk.step hb9 (Blk.step hka HA1.out)))); (try (replace HL2 := Lib.hid (Prs.step hb9 (Prs.step hka HL2.out)))); (try (replace HN := Lib.hid (Blk.step hb9 (Blk.step hka HN.out)))); (try (replace HI1 := Lib.hid (Ints.step hb9 (Ints.step hka HI1.out)))); replace HB := Lib.hid (Bel.step hb9 (Bel.step hka HB.out)); have hsz9 := hb9.size; have hsy9 := hka.size; (try simp only [World.size_alloc, World.size_drew, World.heap_drewN, World.size_setCell] at hsz9 hsy9); clear hka hb9
  clear hsz9 hsy9
  clear x0 x1
  rw [← HK.out.1] at hO2
  rw [← HK.out.1, ← HK.out.2]
  clear HK
  have HI2 := Lib.hid hO2.ints
  clear hO2
  go_wp2_with fail
  go_at_call 49; refine (DrawWornFigure_c A c zs hz _ HA.out).mono ?_; rintro e w10 ⟨cx, cy, sc, gd, gt, rfl, hb10⟩; have hka := Bel.ka HB.out hb10 (by repeat (with_reducible first | exact Below.refl _ _ | refine Bel.alloc ?_ _ | refine Below.drew ?_ | refine Bel.drewN ?_ _)); (try (replace HA := Lib.hid (Byts.step hb10 (Byts.step hka HA.out)))); (try (replace HL := Lib.hid (Prs.step hb10 (Prs.step hka HL.out)))); (try (replace HM1 := Lib.hid (Blk.step hb10 (Blk.step hka HM1.out)))); (try (replace HM2 := Lib.hid (Blk.step hb10 (Blk.step hka HM2.out)))); (try (replace HA1 := Lib.hid (Blk.step hb10 (Blk.step hka HA1.out)))); (try (replace HL2 := Lib.hid (Prs.step hb10 (Prs.step hka HL2.out)))); (try (replace HN := Lib.hid (Blk.step hb10 (Blk.step hka HN.out)))); (try (replace HI1 := Lib.hid (Ints.step hb10 (Ints.step hka HI1.out)))); (try (replace HI2 := Lib.hid (Ints.step hb10 (Ints.step hka HI2.out)))); replace HB := Lib.hid (Bel.step hb10 (Bel.step hka HB.out)); have hsz10 := hb10.size; have hsy10 := hka.size; (try simp only [World.size_alloc, World.size_drew, World.heap_drewN, World.size_setCell] at hsz10 hsy10); clear hka hb10
  clear hsz10 hsy10
  have HC := Lib.hid (by have h := Blk.new w10 73 #[.int .i64 cx, .int .i64 cy]; (try simp only [World.size_alloc] at h); exact h)
  replace HA := Lib.hid (Byts.alloc (.cells #[.int .i64 cx, .int .i64 cy] 73) HA.out)
  replace HL := Lib.hid (Prs.alloc (.cells #[.int .i64 cx, .int .i64 cy] 73) HL.out)
  replace HM1 := Lib.hid (Blk.alloc (.cells #[.int .i64 cx, .int .i64 cy] 73) HM1.out)
  replace HM2 := Lib.hid (Blk.alloc (.cells #[.int .i64 cx, .int .i64 cy] 73) HM2.out)
  replace HA1 := Lib.hid (Blk.alloc (.cells #[.int .i64 cx, .int .i64 cy] 73) HA1.out)
  replace HL2 := Lib.hid (Prs.alloc (.cells #[.int .i64 cx, .int .i64 cy] 73) HL2.out)
  replace HN := Lib.hid (Blk.alloc (.cells #[.int .i64 cx, .int .i64 cy] 73) HN.out)
  replace HI1 := Lib.hid (Ints.alloc (.cells #[.int .i64 cx, .int .i64 cy] 73) HI1.out)
  replace HI2 := Lib.hid (Ints.alloc (.cells #[.int .i64 cx, .int .i64 cy] 73) HI2.out)
  replace HB := Lib.hid (Bel.alloc HB.out (.cells #[.int .i64 cx, .int .i64 cy] 73))
  have HG := Lib.hid (by have h := Blk.new (w10.alloc (.cells #[.int .i64 cx, .int .i64 cy] 73)) 25 #[.int .i64 gd, .int .i64 gt]; (try simp only [World.size_alloc] at h); exact h)
  replace HA := Lib.hid (Byts.alloc (.cells #[.int .i64 gd, .int .i64 gt] 25) HA.out)
  replace HL := Lib.hid (Prs.alloc (.cells #[.int .i64 gd, .int .i64 gt] 25) HL.out)
  replace HM1 := Lib.hid (Blk.alloc (.cells #[.int .i64 gd, .int .i64 gt] 25) HM1.out)
  replace HM2 := Lib.hid (Blk.alloc (.cells #[.int .i64 gd, .int .i64 gt] 25) HM2.out)
  replace HA1 := Lib.hid (Blk.alloc (.cells #[.int .i64 gd, .int .i64 gt] 25) HA1.out)
  replace HL2 := Lib.hid (Prs.alloc (.cells #[.int .i64 gd, .int .i64 gt] 25) HL2.out)
  replace HN := Lib.hid (Blk.alloc (.cells #[.int .i64 gd, .int .i64 gt] 25) HN.out)
  replace HI1 := Lib.hid (Ints.alloc (.cells #[.int .i64 gd, .int .i64 gt] 25) HI1.out)
  replace HI2 := Lib.hid (Ints.alloc (.cells #[.int .i64 gd, .int .i64 gt] 25) HI2.out)
  replace HC := Lib.hid (Blk.alloc (.cells #[.int .i64 gd, .int .i64 gt] 25) HC.out)
  replace HB := Lib.hid (Bel.alloc HB.out (.cells #[.int .i64 gd, .int .i64 gt] 25))
  have x0 : (((w10.alloc (.cells #[.int .i64 cx, .int .i64 cy] 73)).alloc (.cells #[.int .i64 gd, .int .i64 gt] 25))).cell? ⟨w10.heap.size, 0, none⟩ = some (.int .i64 cx) := by rw [HC.out.cell]; rfl
  have x1 : (((w10.alloc (.cells #[.int .i64 cx, .int .i64 cy] 73)).alloc (.cells #[.int .i64 gd, .int .i64 gt] 25))).cell? ⟨w10.heap.size, 1, none⟩ = some (.int .i64 cy) := by rw [HC.out.cell]; rfl
  have y0 : (((w10.alloc (.cells #[.int .i64 cx, .int .i64 cy] 73)).alloc (.cells #[.int .i64 gd, .int .i64 gt] 25))).cell? ⟨w10.heap.size + 1, 0, none⟩ = some (.int .i64 gd) := by rw [HG.out.cell]; rfl
  have y1 : (((w10.alloc (.cells #[.int .i64 cx, .int .i64 cy] 73)).alloc (.cells #[.int .i64 gd, .int .i64 gt] 25))).cell? ⟨w10.heap.size + 1, 1, none⟩ = some (.int .i64 gt) := by rw [HG.out.cell]; rfl
  go_wp2_with fail
  go_at_call 50; refine (WornFigure_I cx cy sc 25000 gd gt _).mono ?_; rintro e w11 ⟨rfl, hb11⟩; have hka := Bel.ka HB.out hb11 (by repeat (with_reducible first | exact Below.refl _ _ | refine Bel.alloc ?_ _ | refine Below.drew ?_ | refine Bel.drewN ?_ _)); (try (replace HA := Lib.hid (Byts.step hb11 (Byts.step hka HA.out)))); (try (replace HL := Lib.hid (Prs.step hb11 (Prs.step hka HL.out)))); (try (replace HM1 := Lib.hid (Blk.step hb11 (Blk.step hka HM1.out)))); (try (replace HM2 := Lib.hid (Blk.step hb11 (Blk.step hka HM2.out)))); (try (replace HA1 := Lib.hid (Blk.step hb11 (Blk.step hka HA1.out)))); (try (replace HL2 := Lib.hid (Prs.step hb11 (Prs.step hka HL2.out)))); (try (replace HN := Lib.hid (Blk.step hb11 (Blk.step hka HN.out)))); (try (replace HI1 := Lib.hid (Ints.step hb11 (Ints.step hka HI1.out)))); (try (replace HI2 := Lib.hid (Ints.step hb11 (Ints.step hka HI2.out)))); (try (replace HC := Lib.hid (Blk.step hb11 (Blk.step hka HC.out)))); (try (replace HG := Lib.hid (Blk.step hb11 (Blk.step hka HG.out)))); replace HB := Lib.hid (Bel.step hb11 (Bel.step hka HB.out)); have hsz11 := hb11.size; have hsy11 := hka.size; (try simp only [World.size_alloc, World.size_drew, World.heap_drewN, World.size_setCell] at hsz11 hsy11); clear hka hb11
  clear hsz11 hsy11
  clear x0 x1 y0 y1
  obtain ⟨wd, hwd⟩ : ∃ k, k = wfD cx cy sc 25000 gd gt := ⟨_, rfl⟩
  obtain ⟨wt, hwt⟩ : ∃ k, k = wfT cx cy sc 25000 gd gt := ⟨_, rfl⟩
  obtain ⟨kw, hkw⟩ : ∃ k, k = wfC cx cy sc 25000 gd gt := ⟨_, rfl⟩
  rw [← hwd, ← hwt, ← hkw]
  have HK := Lib.hid (And.intro hwd (And.intro hwt hkw))
  clear hwd hwt hkw
  have HW1 := Lib.hid (by have h := Blk.new w11 25 #[.int .i64 wd, .int .i64 wt]; (try simp only [World.size_alloc] at h); exact h)
  replace HA := Lib.hid (Byts.alloc (.cells #[.int .i64 wd, .int .i64 wt] 25) HA.out)
  replace HL := Lib.hid (Prs.alloc (.cells #[.int .i64 wd, .int .i64 wt] 25) HL.out)
  replace HM1 := Lib.hid (Blk.alloc (.cells #[.int .i64 wd, .int .i64 wt] 25) HM1.out)
  replace HM2 := Lib.hid (Blk.alloc (.cells #[.int .i64 wd, .int .i64 wt] 25) HM2.out)
  replace HA1 := Lib.hid (Blk.alloc (.cells #[.int .i64 wd, .int .i64 wt] 25) HA1.out)
  replace HL2 := Lib.hid (Prs.alloc (.cells #[.int .i64 wd, .int .i64 wt] 25) HL2.out)
  replace HN := Lib.hid (Blk.alloc (.cells #[.int .i64 wd, .int .i64 wt] 25) HN.out)
  replace HI1 := Lib.hid (Ints.alloc (.cells #[.int .i64 wd, .int .i64 wt] 25) HI1.out)
  replace HI2 := Lib.hid (Ints.alloc (.cells #[.int .i64 wd, .int .i64 wt] 25) HI2.out)
  replace HC := Lib.hid (Blk.alloc (.cells #[.int .i64 wd, .int .i64 wt] 25) HC.out)
  replace HG := Lib.hid (Blk.alloc (.cells #[.int .i64 wd, .int .i64 wt] 25) HG.out)
  replace HB := Lib.hid (Bel.alloc HB.out (.cells #[.int .i64 wd, .int .i64 wt] 25))
  have x0 : ((w11.alloc (.cells #[.int .i64 wd, .int .i64 wt] 25))).cell? ⟨w10.heap.size, 0, none⟩ = some (.int .i64 cx) := by rw [HC.out.cell]; rfl
  have x1 : ((w11.alloc (.cells #[.int .i64 wd, .int .i64 wt] 25))).cell? ⟨w10.heap.size, 1, none⟩ = some (.int .i64 cy) := by rw [HC.out.cell]; rfl
  have y0 : ((w11.alloc (.cells #[.int .i64 wd, .int .i64 wt] 25))).cell? ⟨w10.heap.size + 1, 0, none⟩ = some (.int .i64 gd) := by rw [HG.out.cell]; rfl
  have y1 : ((w11.alloc (.cells #[.int .i64 wd, .int .i64 wt] 25))).cell? ⟨w10.heap.size + 1, 1, none⟩ = some (.int .i64 gt) := by rw [HG.out.cell]; rfl
  go_wp2_with fail
  go_at_call 51; refine (WornFigure_S cx cy sc 25000 gd gt _).mono ?_; rintro e w12 ⟨rfl, hb12⟩; have hka := Bel.ka HB.out hb12 (by repeat (with_reducible first | exact Below.refl _ _ | refine Bel.alloc ?_ _ | refine Below.drew ?_ | refine Bel.drewN ?_ _)); (try (replace HA := Lib.hid (Byts.step hb12 (Byts.step hka HA.out)))); (try (replace HL := Lib.hid (Prs.step hb12 (Prs.step hka HL.out)))); (try (replace HM1 := Lib.hid (Blk.step hb12 (Blk.step hka HM1.out)))); (try (replace HM2 := Lib.hid (Blk.step hb12 (Blk.step hka HM2.out)))); (try (replace HA1 := Lib.hid (Blk.step hb12 (Blk.step hka HA1.out)))); (try (replace HL2 := Lib.hid (Prs.step hb12 (Prs.step hka HL2.out)))); (try (replace HN := Lib.hid (Blk.step hb12 (Blk.step hka HN.out)))); (try (replace HI1 := Lib.hid (Ints.step hb12 (Ints.step hka HI1.out)))); (try (replace HI2 := Lib.hid (Ints.step hb12 (Ints.step hka HI2.out)))); (try (replace HC := Lib.hid (Blk.step hb12 (Blk.step hka HC.out)))); (try (replace HG := Lib.hid (Blk.step hb12 (Blk.step hka HG.out)))); (try (replace HW1 := Lib.hid (Blk.step hb12 (Blk.step hka HW1.out)))); replace HB := Lib.hid (Bel.step hb12 (Bel.step hka HB.out)); have hsz12 := hb12.size; have hsy12 := hka.size; (try simp only [World.size_alloc, World.size_drew, World.heap_drewN, World.size_setCell] at hsz12 hsy12); clear hka hb12
  clear hsz12 hsy12
  clear x0 x1 y0 y1
  rw [← HK.out.1, ← HK.out.2.1, ← HK.out.2.2]
  clear HK
  clear HC HG
  have HW2 := Lib.hid (by have h := Blk.new w12 25 #[.int .i64 wd, .int .i64 wt]; (try simp only [World.size_alloc] at h); exact h)
  replace HA := Lib.hid (Byts.alloc (.cells #[.int .i64 wd, .int .i64 wt] 25) HA.out)
  replace HL := Lib.hid (Prs.alloc (.cells #[.int .i64 wd, .int .i64 wt] 25) HL.out)
  replace HM1 := Lib.hid (Blk.alloc (.cells #[.int .i64 wd, .int .i64 wt] 25) HM1.out)
  replace HM2 := Lib.hid (Blk.alloc (.cells #[.int .i64 wd, .int .i64 wt] 25) HM2.out)
  replace HA1 := Lib.hid (Blk.alloc (.cells #[.int .i64 wd, .int .i64 wt] 25) HA1.out)
  replace HL2 := Lib.hid (Prs.alloc (.cells #[.int .i64 wd, .int .i64 wt] 25) HL2.out)
  replace HN := Lib.hid (Blk.alloc (.cells #[.int .i64 wd, .int .i64 wt] 25) HN.out)
  replace HI1 := Lib.hid (Ints.alloc (.cells #[.int .i64 wd, .int .i64 wt] 25) HI1.out)
  replace HI2 := Lib.hid (Ints.alloc (.cells #[.int .i64 wd, .int .i64 wt] 25) HI2.out)
  replace HW1 := Lib.hid (Blk.alloc (.cells #[.int .i64 wd, .int .i64 wt] 25) HW1.out)
  replace HB := Lib.hid (Bel.alloc HB.out (.cells #[.int .i64 wd, .int .i64 wt] 25))
  have x0 : ((w12.alloc (.cells #[.int .i64 wd, .int .i64 wt] 25))).cell? ⟨w2.heap.size, 0, none⟩ = some (.int .i64 m0) := by rw [HM1.out.cell]; rfl
  have x1 : ((w12.alloc (.cells #[.int .i64 wd, .int .i64 wt] 25))).cell? ⟨w2.heap.size, 1, none⟩ = some (.int .i64 m1) := by rw [HM1.out.cell]; rfl
  have y0 : ((w12.alloc (.cells #[.int .i64 wd, .int .i64 wt] 25))).cell? ⟨w3.heap.size, 0, none⟩ = some (.int .i64 m0) := by rw [HM2.out.cell]; rfl
  have y1 : ((w12.alloc (.cells #[.int .i64 wd, .int .i64 wt] 25))).cell? ⟨w3.heap.size, 1, none⟩ = some (.int .i64 m1) := by rw [HM2.out.cell]; rfl
  go_wp2_with fail
  go_at_call 52; refine (likeInts_c A1 A2 c1 c2 FL hfl _ (by repeat (with_reducible first | exact HI1.out | assumption | refine Ints.drew ?_ | refine Ints.drewN _ ?_ | refine Ints.alloc _ ?_ | refine Ints.step (by assumption) ?_)) (by repeat (with_reducible first | exact HI2.out | assumption | refine Ints.drew ?_ | refine Ints.drewN _ ?_ | refine Ints.alloc _ ?_ | refine Ints.step (by assumption) ?_))).mono ?_; rintro e w13 ⟨rfl, hb13⟩; have hka := Bel.ka HB.out hb13 (by repeat (with_reducible first | exact Below.refl _ _ | refine Bel.alloc ?_ _ | refine Below.drew ?_ | refine Bel.drewN ?_ _)); (try (replace HA := Lib.hid (Byts.step hb13 (Byts.step hka HA.out)))); (try (replace HL := Lib.hid (Prs.step hb13 (Prs.step hka HL.out)))); (try (replace HM1 := Lib.hid (Blk.step hb13 (Blk.step hka HM1.out)))); (try (replace HM2 := Lib.hid (Blk.step hb13 (Blk.step hka HM2.out)))); (try (replace HA1 := Lib.hid (Blk.step hb13 (Blk.step hka HA1.out)))); (try (replace HL2 := Lib.hid (Prs.step hb13 (Prs.step hka HL2.out)))); (try (replace HN := Lib.hid (Blk.step hb13 (Blk.step hka HN.out)))); (try (replace HI1 := Lib.hid (Ints.step hb13 (Ints.step hka HI1.out)))); (try (replace HI2 := Lib.hid (Ints.step hb13 (Ints.step hka HI2.out)))); (try (replace HW1 := Lib.hid (Blk.step hb13 (Blk.step hka HW1.out)))); (try (replace HW2 := Lib.hid (Blk.step hb13 (Blk.step hka HW2.out)))); replace HB := Lib.hid (Bel.step hb13 (Bel.step hka HB.out)); have hsz13 := hb13.size; have hsy13 := hka.size; (try simp only [World.size_alloc, World.size_drew, World.heap_drewN, World.size_setCell] at hsz13 hsy13); clear hka hb13
  clear hsz13 hsy13
  clear x0 x1 y0 y1
  clear HI1 HI2 HM2
  have x0 : (w13).cell? ⟨w11.heap.size, 0, none⟩ = some (.int .i64 wd) := by rw [HW1.out.cell]; rfl
  have x1 : (w13).cell? ⟨w11.heap.size, 1, none⟩ = some (.int .i64 wt) := by rw [HW1.out.cell]; rfl
  have y0 : (w13).cell? ⟨w12.heap.size, 0, none⟩ = some (.int .i64 wd) := by rw [HW2.out.cell]; rfl
  have y1 : (w13).cell? ⟨w12.heap.size, 1, none⟩ = some (.int .i64 wt) := by rw [HW2.out.cell]; rfl
  go_upto_region 17 with (fail)
  clear x0 x1 y0 y1
  clear HW1 HW2
  by_cases hkf : kf = 0
  rotate_left
  · have hkfb : (kf == 0) = false := by simpa using hkf
    go_upto_region 21 with (fail)
    obtain ⟨W, rfl⟩ : ∃ U : World, U = w13 := ⟨_, rfl⟩
    by_cases hkc : kc = 0
    rotate_left
    · have hkcb : (kc == 0) = false := by simpa using hkc
      go_upto_region 26 with (fail)
      by_cases hk : k = 0
      rotate_left
      · have hkb : (k == 0) = false := by simpa using hk
        go_wp2
        go_ret
        exact ⟨rfl, HB.out⟩
      obtain ⟨e0, e1, ⟨s1, s2⟩, e2⟩ := HBM.out hk
      have HE0 := Lib.hid e0
      have HE1 := Lib.hid e1
      have HE2 := Lib.hid e2
      clear e0 e1 e2
      subst hk
      go_wp2_with fail
      go_at_call 55; refine (roll_c A c zs hz 2803 _ HA.out).mono ?_; rintro e w32 ⟨X, rfl, hX, hD, hb32⟩
      go_wp2_with fail
      go_at_call 56; refine (below_c X A zs 3 (by omega) (by omega) _ hD).mono ?_; rintro e w33 ⟨d, rfl, hd0, hd1, hD2, hk33⟩
      have hbx := Kp.bel hk33 hX hb32.size hb32
      replace HL := Lib.hid (Prs.step hbx HL.out)
      replace HM1 := Lib.hid (Blk.step hbx HM1.out)
      replace HB := Lib.hid (Bel.step hbx HB.out)
      clear hbx hk33 hD hD2 hX hb32 HA
      have ed : IntKind.i64.wrap (d - 1) = d - 1 := wr64 (by omega) (by omega)
      have hsq : -100000 ≤ st * (d - 1) ∧ st * (d - 1) ≤ 100000 := by rcases (show d = 0 ∨ d = 1 ∨ d = 2 by omega) with rfl | rfl | rfl <;> omega
      obtain ⟨sq, hsqe⟩ : ∃ k, k = st * (d - 1) := ⟨_, rfl⟩
      have es : IntKind.i64.wrap (st * (d - 1)) = sq := by rw [hsqe]; exact wr64 (by omega) (by omega)
      obtain ⟨f1, f2⟩ := HE2.out (d - 1) (by omega) (by omega)
      rw [← hsqe] at f1 f2 hsq
      clear hsqe
      have HF2 := Lib.hid f2
      go_wp2_with fail
      go_at_call 57; refine (BestShift_I sq (some ⟨g, 0, none⟩) q ts (by omega) _ (by repeat (with_reducible first | exact HL.out | assumption | refine Prs.drew ?_ | refine Prs.drewN _ ?_ | refine Prs.alloc _ ?_ | refine Prs.step (by assumption) ?_))).mono ?_; rintro e w34 ⟨rfl, hb34⟩; have hka := Bel.ka HB.out hb34 (by repeat (with_reducible first | exact Below.refl _ _ | refine Bel.alloc ?_ _ | refine Below.drew ?_ | refine Bel.drewN ?_ _)); (try (replace HM1 := Lib.hid (Blk.step hb34 (Blk.step hka HM1.out)))); replace HB := Lib.hid (Bel.step hb34 (Bel.step hka HB.out)); have hsz34 := hb34.size; have hsy34 := hka.size; (try simp only [World.size_alloc, World.size_drew, World.heap_drewN, World.size_setCell] at hsz34 hsy34); clear hka hb34
      rw [f1]
      clear f1 f2 hsz34 hsy34
      have f2 := HF2.out
      clear HF2
      generalize bShF sq ts = nb at f2 ⊢
      generalize bShV sq ts = nv
      have x0 : (w34).cell? ⟨w2.heap.size, 0, none⟩ = some (.int .i64 m0) := by rw [HM1.out.cell]; rfl
      have x1 : (w34).cell? ⟨w2.heap.size, 1, none⟩ = some (.int .i64 m1) := by rw [HM1.out.cell]; rfl
      have hst : st ≠ 0 := by omega
      have e0 := HE0.out
      go_wp2_with fail
      go_at_call 58; refine (isModel_I m0 m1 _).mono ?_; rintro e w35 ⟨rfl, hb35⟩; have hka := Bel.ka HB.out hb35 (by repeat (with_reducible first | exact Below.refl _ _ | refine Bel.alloc ?_ _ | refine Below.drew ?_ | refine Bel.drewN ?_ _)); replace HB := Lib.hid (Bel.step hb35 (Bel.step hka HB.out)); have hsz35 := hb35.size; have hsy35 := hka.size; (try simp only [World.size_alloc, World.size_drew, World.heap_drewN, World.size_setCell] at hsz35 hsy35); clear hka hb35
      rw [HE1.out]
      go_wp2
      go_ret
      exact ⟨rfl, HB.out⟩
    obtain ⟨⟨n1, n2⟩, pp, hpp, e0, ⟨v1, v2⟩, e1⟩ := HCP.out hkc
    subst hpp
    have HE1 := Lib.hid e1
    clear e1
    subst hkc
    have x0 : (W).cell? ⟨w4.heap.size, 0, none⟩ = some (.int .i64 ax) := by rw [HA1.out.cell]; rfl
    have x1 : (W).cell? ⟨w4.heap.size, 1, none⟩ = some (.int .i64 ay) := by rw [HA1.out.cell]; rfl
    go_wp2_with fail
    go_at_call 54; refine (SeenAt_I ax ay p _).mono ?_; rintro e w22 ⟨rfl, hb22⟩; have hka := Bel.ka HB.out hb22 (by repeat (with_reducible first | exact Below.refl _ _ | refine Bel.alloc ?_ _ | refine Below.drew ?_ | refine Bel.drewN ?_ _)); (try (replace HM1 := Lib.hid (Blk.step hb22 (Blk.step hka HM1.out)))); (try (replace HA1 := Lib.hid (Blk.step hb22 (Blk.step hka HA1.out)))); (try (replace HL := Lib.hid (Prs.step hb22 (Prs.step hka HL.out)))); (try (replace HA := Lib.hid (Byts.step hb22 (Byts.step hka HA.out)))); replace HB := Lib.hid (Bel.step hb22 (Bel.step hka HB.out)); have hsz22 := hb22.size; have hsy22 := hka.size; (try simp only [World.size_alloc, World.size_drew, World.heap_drewN, World.size_setCell] at hsz22 hsy22); clear hka hb22
    clear hsz22 hsy22
    clear x0 x1
    rw [e0]
    clear e0
    obtain ⟨xv, hxv⟩ : ∃ k, k = seenAtV ax ay p := ⟨_, rfl⟩
    rw [← hxv] at v1 v2 ⊢
    have HXV := Lib.hid hxv
    clear hxv
    go_upto_region 23 with (fail)
    refine wp_region_held_drew (S := fun W => Blk W w4.heap.size 73 #[.int .i64 ax, .int .i64 ay] ∧ True) (by kernel_rfl) (⟨HA1.out.drew, trivial⟩) (fun hHeld => ?_)
    replace HA1 := Lib.hid HA1.out.drew
    replace HL := Lib.hid HL.out.drew
    replace HM1 := Lib.hid HM1.out.drew
    replace HA := Lib.hid (Byts.step (Below.drew (Below.refl _ _)) HA.out)
    replace HB := Lib.hid (Below.drew HB.out)
    generalize w22.drew = v23 at HA1 HL HM1 HA HB hHeld ⊢
    refine wpAnyH_take (i := 0) (v := .agg #[.int .i64 ax, .int .i64 ay]) rfl (by kernel_rfl) (by kernel_rfl) (by kernel_rfl) (fun _ _ _ h => h) (yieldsIf_load_blk 73 _ (w4.heap.size) (fun _ h => h.1) Try.underlying73 (by kernel_rfl) (by rfl) rfl rfl) hHeld ?_
    simp only [Act.put, List.getElem_toArray, List.getElem_cons_succ, List.getElem_cons_zero, List.setIfInBounds_toArray, List.set_cons_zero, List.set_cons_succ]
    refine wpAnyH_take (i := 1) (v := (.slice A zs.length c)) rfl (by kernel_rfl) (by kernel_rfl) (by kernel_rfl) (fun _ _ _ h => h) (Or.inl ⟨by rfl, fun w _ => by simp [go_sem, execOp]⟩) hHeld ?_
    simp only [Act.put, List.getElem_toArray, List.getElem_cons_succ, List.getElem_cons_zero, List.setIfInBounds_toArray, List.set_cons_zero, List.set_cons_succ]
    refine wpAnyH_ready (rs := [2]) (by kernel_rfl) (by simp) ?_
    refine AllReadyH.cons rfl (fun K hK => ?_) (AllReadyH.nil)
    go_simp
    go_at_call 55; refine (roll_c A c zs hz 2802 _ HA.out).mono ?_; rintro e w24 ⟨X, rfl, hX, hD, hb24⟩
    have hbx := hb24
    refine hK.out _ _ (⟨Blk.step hbx HA1.out, trivial⟩) (fun hHeld => ?_)
    clear hK K
    try simp only [Act.put, List.setIfInBounds_toArray, List.set_cons_zero, List.set_cons_succ]
    refine wpAnyH_ready (rs := [3]) (by kernel_rfl) (by simp) ?_
    refine AllReadyH.cons rfl (fun K hK => ?_) (AllReadyH.nil)
    go_simp
    go_at_call 56; refine (below_c X A zs 100001 (by omega) (by omega) _ hD).mono ?_; rintro e w25 ⟨d, rfl, hd0, hd1, hD2, hk25⟩
    replace hbx := Kp.bel hk25 hX hb24.size hbx
    clear hk25 hD hD2 hX hb24
    refine hK.out _ _ (⟨Blk.step hbx HA1.out, trivial⟩) (fun hHeld => ?_)
    clear hK K
    try simp only [Act.put, List.setIfInBounds_toArray, List.set_cons_zero, List.set_cons_succ]
    refine wpAnyH_ready (rs := [4]) (by kernel_rfl) (by simp) ?_
    refine AllReadyH.cons rfl (fun K hK => ?_) (AllReadyH.nil)
    go_simp
    go_at_call 54; refine (SeenAt_I ax ay d _).mono ?_; rintro e w26 ⟨rfl, hb26⟩
    replace hbx := Bel.step hb26 hbx
    clear hb26
    obtain ⟨g0, ⟨g1, g2⟩, g3⟩ := HE1.out d (by omega) (by omega)
    rw [g0]
    rw [← HXV.out] at g3
    obtain ⟨yv, hyv⟩ : ∃ k, k = seenAtV ax ay d := ⟨_, rfl⟩
    rw [← hyv] at g1 g2 g3 ⊢
    clear hyv g0 HE1 HXV
    have hab : Ab (xv - an) ≤ Ab (yv - an) := by unfold Ab at g3 ⊢; (repeat' split at g3) <;> (repeat' split) <;> omega
    have HAB := Lib.hid hab
    clear g3 hab
    refine hK.out _ _ (⟨Blk.step hbx HA1.out, trivial⟩) (fun hHeld => ?_)
    clear hK K
    try simp only [Act.put, List.setIfInBounds_toArray, List.set_cons_zero, List.set_cons_succ]
    refine wpAnyH_take (i := 5) (v := (.tuple #[.int .i64 yv, .int .i64 0])) rfl (by kernel_rfl) (by kernel_rfl) (by kernel_rfl) (fun _ _ _ h => h) (Or.inl ⟨by rfl, fun w _ => by simp [go_sem, execOp]⟩) hHeld ?_
    simp only [Act.put, List.getElem_toArray, List.getElem_cons_succ, List.getElem_cons_zero, List.setIfInBounds_toArray, List.set_cons_zero, List.set_cons_succ]
    refine wpAnyH_take (i := 6) (v := (.int .i64 yv)) rfl (by kernel_rfl) (by kernel_rfl) (by kernel_rfl) (fun _ _ _ h => h) (Or.inl ⟨by rfl, fun w _ => by simp [go_sem, execOp]⟩) hHeld ?_
    simp only [Act.put, List.getElem_toArray, List.getElem_cons_succ, List.getElem_cons_zero, List.setIfInBounds_toArray, List.set_cons_zero, List.set_cons_succ]
    refine wpAnyH_take (i := 7) (v := (.int .i64 0)) rfl (by kernel_rfl) (by kernel_rfl) (by kernel_rfl) (fun _ _ _ h => h) (Or.inl ⟨by rfl, fun w _ => by simp [go_sem, execOp]⟩) hHeld ?_
    simp only [Act.put, List.getElem_toArray, List.getElem_cons_succ, List.getElem_cons_zero, List.setIfInBounds_toArray, List.set_cons_zero, List.set_cons_succ]
    refine wpAnyH_take (i := 8) (v := (.int .i64 yv)) rfl (by kernel_rfl) (by kernel_rfl) (by kernel_rfl) (fun _ _ _ h => h) (Or.inl ⟨by rfl, fun w _ => by simp [go_sem, execOp]⟩) hHeld ?_
    simp only [Act.put, List.getElem_toArray, List.getElem_cons_succ, List.getElem_cons_zero, List.setIfInBounds_toArray, List.set_cons_zero, List.set_cons_succ]
    refine wpAnyH_take (i := 9) (v := (.int .i64 0)) rfl (by kernel_rfl) (by kernel_rfl) (by kernel_rfl) (fun _ _ _ h => h) (Or.inl ⟨by rfl, fun w _ => by simp [go_sem, execOp]⟩) hHeld ?_
    simp only [Act.put, List.getElem_toArray, List.getElem_cons_succ, List.getElem_cons_zero, List.setIfInBounds_toArray, List.set_cons_zero, List.set_cons_succ]
    refine wpAnyH_done (by kernel_rfl) ?_ _
    replace HA := Lib.hid (Byts.step hbx HA.out)
    replace HL := Lib.hid (Prs.step hbx HL.out)
    replace HM1 := Lib.hid (Blk.step hbx HM1.out)
    replace HB := Lib.hid (Bel.step hbx HB.out)
    clear hbx HA1
    have hab := HAB.out
    clear HAB
    unfold Ab at hab
    have w1_ : IntKind.i64.wrap (xv - an) = xv - an := wr64 (by omega) (by omega)
    have w2_ : IntKind.i64.wrap (an - xv) = an - xv := wr64 (by omega) (by omega)
    have w3_ : IntKind.i64.wrap (yv - an) = yv - an := wr64 (by omega) (by omega)
    have w4_ : IntKind.i64.wrap (an - yv) = an - yv := wr64 (by omega) (by omega)
    go_upto_region 26 with (fail)
    try generalize (if xv - an < an - xv then an - xv else xv - an) = z1_
    try generalize (if yv - an < an - yv then an - yv else yv - an) = z2_
    by_cases hk : k = 0
    rotate_left
    · have hkb : (k == 0) = false := by simpa using hk
      go_wp2
      go_ret
      exact ⟨rfl, HB.out⟩
    obtain ⟨e0, e1, ⟨s1, s2⟩, e2⟩ := HBM.out hk
    have HE0 := Lib.hid e0
    have HE1 := Lib.hid e1
    have HE2 := Lib.hid e2
    clear e0 e1 e2
    subst hk
    go_wp2_with fail
    go_at_call 55; refine (roll_c A c zs hz 2803 _ HA.out).mono ?_; rintro e w32 ⟨X, rfl, hX, hD, hb32⟩
    go_wp2_with fail
    go_at_call 56; refine (below_c X A zs 3 (by omega) (by omega) _ hD).mono ?_; rintro e w33 ⟨d, rfl, hd0, hd1, hD2, hk33⟩
    have hbx := Kp.bel hk33 hX hb32.size hb32
    replace HL := Lib.hid (Prs.step hbx HL.out)
    replace HM1 := Lib.hid (Blk.step hbx HM1.out)
    replace HB := Lib.hid (Bel.step hbx HB.out)
    clear hbx hk33 hD hD2 hX hb32 HA
    have ed : IntKind.i64.wrap (d - 1) = d - 1 := wr64 (by omega) (by omega)
    have hsq : -100000 ≤ st * (d - 1) ∧ st * (d - 1) ≤ 100000 := by rcases (show d = 0 ∨ d = 1 ∨ d = 2 by omega) with rfl | rfl | rfl <;> omega
    obtain ⟨sq, hsqe⟩ : ∃ k, k = st * (d - 1) := ⟨_, rfl⟩
    have es : IntKind.i64.wrap (st * (d - 1)) = sq := by rw [hsqe]; exact wr64 (by omega) (by omega)
    obtain ⟨f1, f2⟩ := HE2.out (d - 1) (by omega) (by omega)
    rw [← hsqe] at f1 f2 hsq
    clear hsqe
    have HF2 := Lib.hid f2
    go_wp2_with fail
    go_at_call 57; refine (BestShift_I sq (some ⟨g, 0, none⟩) q ts (by omega) _ (by repeat (with_reducible first | exact HL.out | assumption | refine Prs.drew ?_ | refine Prs.drewN _ ?_ | refine Prs.alloc _ ?_ | refine Prs.step (by assumption) ?_))).mono ?_; rintro e w34 ⟨rfl, hb34⟩; have hka := Bel.ka HB.out hb34 (by repeat (with_reducible first | exact Below.refl _ _ | refine Bel.alloc ?_ _ | refine Below.drew ?_ | refine Bel.drewN ?_ _)); (try (replace HM1 := Lib.hid (Blk.step hb34 (Blk.step hka HM1.out)))); replace HB := Lib.hid (Bel.step hb34 (Bel.step hka HB.out)); have hsz34 := hb34.size; have hsy34 := hka.size; (try simp only [World.size_alloc, World.size_drew, World.heap_drewN, World.size_setCell] at hsz34 hsy34); clear hka hb34
    rw [f1]
    clear f1 f2 hsz34 hsy34
    have f2 := HF2.out
    clear HF2
    generalize bShF sq ts = nb at f2 ⊢
    generalize bShV sq ts = nv
    have x0 : (w34).cell? ⟨w2.heap.size, 0, none⟩ = some (.int .i64 m0) := by rw [HM1.out.cell]; rfl
    have x1 : (w34).cell? ⟨w2.heap.size, 1, none⟩ = some (.int .i64 m1) := by rw [HM1.out.cell]; rfl
    have hst : st ≠ 0 := by omega
    have e0 := HE0.out
    go_wp2_with fail
    go_at_call 58; refine (isModel_I m0 m1 _).mono ?_; rintro e w35 ⟨rfl, hb35⟩; have hka := Bel.ka HB.out hb35 (by repeat (with_reducible first | exact Below.refl _ _ | refine Bel.alloc ?_ _ | refine Below.drew ?_ | refine Bel.drewN ?_ _)); replace HB := Lib.hid (Bel.step hb35 (Bel.step hka HB.out)); have hsz35 := hb35.size; have hsy35 := hka.size; (try simp only [World.size_alloc, World.size_drew, World.heap_drewN, World.size_setCell] at hsz35 hsy35); clear hka hb35
    rw [HE1.out]
    go_wp2
    go_ret
    exact ⟨rfl, HB.out⟩
  obtain ⟨e0, e1⟩ := HFF.out hkf
  have HE1 := Lib.hid e1
  clear e1
  subst hkf
  have x0 : (w13).cell? ⟨w7.heap.size, 0, none⟩ = some (.int .i64 bx) := by rw [HN.out.cell]; rfl
  have x1 : (w13).cell? ⟨w7.heap.size, 1, none⟩ = some (.int .i64 by_) := by rw [HN.out.cell]; rfl
  go_wp2_with fail
  go_at_call 53; refine (FitOf_I bx by_ (some ⟨gl, 0, none⟩) ql ls (by omega) _ (by repeat (with_reducible first | exact HL2.out | assumption | refine Prs.drew ?_ | refine Prs.drewN _ ?_ | refine Prs.alloc _ ?_ | refine Prs.step (by assumption) ?_))).mono ?_; rintro e w18 ⟨rfl, hb18⟩; have hka := Bel.ka HB.out hb18 (by repeat (with_reducible first | exact Below.refl _ _ | refine Bel.alloc ?_ _ | refine Below.drew ?_ | refine Bel.drewN ?_ _)); (try (replace HM1 := Lib.hid (Blk.step hb18 (Blk.step hka HM1.out)))); (try (replace HA1 := Lib.hid (Blk.step hb18 (Blk.step hka HA1.out)))); (try (replace HL := Lib.hid (Prs.step hb18 (Prs.step hka HL.out)))); (try (replace HA := Lib.hid (Byts.step hb18 (Byts.step hka HA.out)))); replace HB := Lib.hid (Bel.step hb18 (Bel.step hka HB.out)); have hsz18 := hb18.size; have hsy18 := hka.size; (try simp only [World.size_alloc, World.size_drew, World.heap_drewN, World.size_setCell] at hsz18 hsy18); clear hka hb18
  clear hsz18 hsy18
  clear x0 x1
  rw [e0]
  clear e0 HL2 HN
  have e1 := HE1.out
  clear HE1
  generalize fitOfV bx by_ ls = fv at e1 ⊢
  generalize FL.length = nl at *
  by_cases hnl : 0 < nl
  · have hlv := e1.1 hnl
    have hni : (0 : Int) < (nl : Int) := by omega
    clear e1
    go_upto_region 21 with (fail)
    obtain ⟨W, rfl⟩ : ∃ U : World, U = w18 := ⟨_, rfl⟩
    by_cases hkc : kc = 0
    rotate_left
    · have hkcb : (kc == 0) = false := by simpa using hkc
      go_upto_region 26 with (fail)
      by_cases hk : k = 0
      rotate_left
      · have hkb : (k == 0) = false := by simpa using hk
        go_wp2
        go_ret
        exact ⟨rfl, HB.out⟩
      obtain ⟨e0, e1, ⟨s1, s2⟩, e2⟩ := HBM.out hk
      have HE0 := Lib.hid e0
      have HE1 := Lib.hid e1
      have HE2 := Lib.hid e2
      clear e0 e1 e2
      subst hk
      go_wp2_with fail
      go_at_call 55; refine (roll_c A c zs hz 2803 _ HA.out).mono ?_; rintro e w32 ⟨X, rfl, hX, hD, hb32⟩
      go_wp2_with fail
      go_at_call 56; refine (below_c X A zs 3 (by omega) (by omega) _ hD).mono ?_; rintro e w33 ⟨d, rfl, hd0, hd1, hD2, hk33⟩
      have hbx := Kp.bel hk33 hX hb32.size hb32
      replace HL := Lib.hid (Prs.step hbx HL.out)
      replace HM1 := Lib.hid (Blk.step hbx HM1.out)
      replace HB := Lib.hid (Bel.step hbx HB.out)
      clear hbx hk33 hD hD2 hX hb32 HA
      have ed : IntKind.i64.wrap (d - 1) = d - 1 := wr64 (by omega) (by omega)
      have hsq : -100000 ≤ st * (d - 1) ∧ st * (d - 1) ≤ 100000 := by rcases (show d = 0 ∨ d = 1 ∨ d = 2 by omega) with rfl | rfl | rfl <;> omega
      obtain ⟨sq, hsqe⟩ : ∃ k, k = st * (d - 1) := ⟨_, rfl⟩
      have es : IntKind.i64.wrap (st * (d - 1)) = sq := by rw [hsqe]; exact wr64 (by omega) (by omega)
      obtain ⟨f1, f2⟩ := HE2.out (d - 1) (by omega) (by omega)
      rw [← hsqe] at f1 f2 hsq
      clear hsqe
      have HF2 := Lib.hid f2
      go_wp2_with fail
      go_at_call 57; refine (BestShift_I sq (some ⟨g, 0, none⟩) q ts (by omega) _ (by repeat (with_reducible first | exact HL.out | assumption | refine Prs.drew ?_ | refine Prs.drewN _ ?_ | refine Prs.alloc _ ?_ | refine Prs.step (by assumption) ?_))).mono ?_; rintro e w34 ⟨rfl, hb34⟩; have hka := Bel.ka HB.out hb34 (by repeat (with_reducible first | exact Below.refl _ _ | refine Bel.alloc ?_ _ | refine Below.drew ?_ | refine Bel.drewN ?_ _)); (try (replace HM1 := Lib.hid (Blk.step hb34 (Blk.step hka HM1.out)))); replace HB := Lib.hid (Bel.step hb34 (Bel.step hka HB.out)); have hsz34 := hb34.size; have hsy34 := hka.size; (try simp only [World.size_alloc, World.size_drew, World.heap_drewN, World.size_setCell] at hsz34 hsy34); clear hka hb34
      rw [f1]
      clear f1 f2 hsz34 hsy34
      have f2 := HF2.out
      clear HF2
      generalize bShF sq ts = nb at f2 ⊢
      generalize bShV sq ts = nv
      have x0 : (w34).cell? ⟨w2.heap.size, 0, none⟩ = some (.int .i64 m0) := by rw [HM1.out.cell]; rfl
      have x1 : (w34).cell? ⟨w2.heap.size, 1, none⟩ = some (.int .i64 m1) := by rw [HM1.out.cell]; rfl
      have hst : st ≠ 0 := by omega
      have e0 := HE0.out
      go_wp2_with fail
      go_at_call 58; refine (isModel_I m0 m1 _).mono ?_; rintro e w35 ⟨rfl, hb35⟩; have hka := Bel.ka HB.out hb35 (by repeat (with_reducible first | exact Below.refl _ _ | refine Bel.alloc ?_ _ | refine Below.drew ?_ | refine Bel.drewN ?_ _)); replace HB := Lib.hid (Bel.step hb35 (Bel.step hka HB.out)); have hsz35 := hb35.size; have hsy35 := hka.size; (try simp only [World.size_alloc, World.size_drew, World.heap_drewN, World.size_setCell] at hsz35 hsy35); clear hka hb35
      rw [HE1.out]
      go_wp2
      go_ret
      exact ⟨rfl, HB.out⟩
    obtain ⟨⟨n1, n2⟩, pp, hpp, e0, ⟨v1, v2⟩, e1⟩ := HCP.out hkc
    subst hpp
    have HE1 := Lib.hid e1
    clear e1
    subst hkc
    have x0 : (W).cell? ⟨w4.heap.size, 0, none⟩ = some (.int .i64 ax) := by rw [HA1.out.cell]; rfl
    have x1 : (W).cell? ⟨w4.heap.size, 1, none⟩ = some (.int .i64 ay) := by rw [HA1.out.cell]; rfl
    go_wp2_with fail
    go_at_call 54; refine (SeenAt_I ax ay p _).mono ?_; rintro e w22 ⟨rfl, hb22⟩; have hka := Bel.ka HB.out hb22 (by repeat (with_reducible first | exact Below.refl _ _ | refine Bel.alloc ?_ _ | refine Below.drew ?_ | refine Bel.drewN ?_ _)); (try (replace HM1 := Lib.hid (Blk.step hb22 (Blk.step hka HM1.out)))); (try (replace HA1 := Lib.hid (Blk.step hb22 (Blk.step hka HA1.out)))); (try (replace HL := Lib.hid (Prs.step hb22 (Prs.step hka HL.out)))); (try (replace HA := Lib.hid (Byts.step hb22 (Byts.step hka HA.out)))); replace HB := Lib.hid (Bel.step hb22 (Bel.step hka HB.out)); have hsz22 := hb22.size; have hsy22 := hka.size; (try simp only [World.size_alloc, World.size_drew, World.heap_drewN, World.size_setCell] at hsz22 hsy22); clear hka hb22
    clear hsz22 hsy22
    clear x0 x1
    rw [e0]
    clear e0
    obtain ⟨xv, hxv⟩ : ∃ k, k = seenAtV ax ay p := ⟨_, rfl⟩
    rw [← hxv] at v1 v2 ⊢
    have HXV := Lib.hid hxv
    clear hxv
    go_upto_region 23 with (fail)
    refine wp_region_held_drew (S := fun W => Blk W w4.heap.size 73 #[.int .i64 ax, .int .i64 ay] ∧ True) (by kernel_rfl) (⟨HA1.out.drew, trivial⟩) (fun hHeld => ?_)
    replace HA1 := Lib.hid HA1.out.drew
    replace HL := Lib.hid HL.out.drew
    replace HM1 := Lib.hid HM1.out.drew
    replace HA := Lib.hid (Byts.step (Below.drew (Below.refl _ _)) HA.out)
    replace HB := Lib.hid (Below.drew HB.out)
    generalize w22.drew = v23 at HA1 HL HM1 HA HB hHeld ⊢
    refine wpAnyH_take (i := 0) (v := .agg #[.int .i64 ax, .int .i64 ay]) rfl (by kernel_rfl) (by kernel_rfl) (by kernel_rfl) (fun _ _ _ h => h) (yieldsIf_load_blk 73 _ (w4.heap.size) (fun _ h => h.1) Try.underlying73 (by kernel_rfl) (by rfl) rfl rfl) hHeld ?_
    simp only [Act.put, List.getElem_toArray, List.getElem_cons_succ, List.getElem_cons_zero, List.setIfInBounds_toArray, List.set_cons_zero, List.set_cons_succ]
    refine wpAnyH_take (i := 1) (v := (.slice A zs.length c)) rfl (by kernel_rfl) (by kernel_rfl) (by kernel_rfl) (fun _ _ _ h => h) (Or.inl ⟨by rfl, fun w _ => by simp [go_sem, execOp]⟩) hHeld ?_
    simp only [Act.put, List.getElem_toArray, List.getElem_cons_succ, List.getElem_cons_zero, List.setIfInBounds_toArray, List.set_cons_zero, List.set_cons_succ]
    refine wpAnyH_ready (rs := [2]) (by kernel_rfl) (by simp) ?_
    refine AllReadyH.cons rfl (fun K hK => ?_) (AllReadyH.nil)
    go_simp
    go_at_call 55; refine (roll_c A c zs hz 2802 _ HA.out).mono ?_; rintro e w24 ⟨X, rfl, hX, hD, hb24⟩
    have hbx := hb24
    refine hK.out _ _ (⟨Blk.step hbx HA1.out, trivial⟩) (fun hHeld => ?_)
    clear hK K
    try simp only [Act.put, List.setIfInBounds_toArray, List.set_cons_zero, List.set_cons_succ]
    refine wpAnyH_ready (rs := [3]) (by kernel_rfl) (by simp) ?_
    refine AllReadyH.cons rfl (fun K hK => ?_) (AllReadyH.nil)
    go_simp
    go_at_call 56; refine (below_c X A zs 100001 (by omega) (by omega) _ hD).mono ?_; rintro e w25 ⟨d, rfl, hd0, hd1, hD2, hk25⟩
    replace hbx := Kp.bel hk25 hX hb24.size hbx
    clear hk25 hD hD2 hX hb24
    refine hK.out _ _ (⟨Blk.step hbx HA1.out, trivial⟩) (fun hHeld => ?_)
    clear hK K
    try simp only [Act.put, List.setIfInBounds_toArray, List.set_cons_zero, List.set_cons_succ]
    refine wpAnyH_ready (rs := [4]) (by kernel_rfl) (by simp) ?_
    refine AllReadyH.cons rfl (fun K hK => ?_) (AllReadyH.nil)
    go_simp
    go_at_call 54; refine (SeenAt_I ax ay d _).mono ?_; rintro e w26 ⟨rfl, hb26⟩
    replace hbx := Bel.step hb26 hbx
    clear hb26
    obtain ⟨g0, ⟨g1, g2⟩, g3⟩ := HE1.out d (by omega) (by omega)
    rw [g0]
    rw [← HXV.out] at g3
    obtain ⟨yv, hyv⟩ : ∃ k, k = seenAtV ax ay d := ⟨_, rfl⟩
    rw [← hyv] at g1 g2 g3 ⊢
    clear hyv g0 HE1 HXV
    have hab : Ab (xv - an) ≤ Ab (yv - an) := by unfold Ab at g3 ⊢; (repeat' split at g3) <;> (repeat' split) <;> omega
    have HAB := Lib.hid hab
    clear g3 hab
    refine hK.out _ _ (⟨Blk.step hbx HA1.out, trivial⟩) (fun hHeld => ?_)
    clear hK K
    try simp only [Act.put, List.setIfInBounds_toArray, List.set_cons_zero, List.set_cons_succ]
    refine wpAnyH_take (i := 5) (v := (.tuple #[.int .i64 yv, .int .i64 0])) rfl (by kernel_rfl) (by kernel_rfl) (by kernel_rfl) (fun _ _ _ h => h) (Or.inl ⟨by rfl, fun w _ => by simp [go_sem, execOp]⟩) hHeld ?_
    simp only [Act.put, List.getElem_toArray, List.getElem_cons_succ, List.getElem_cons_zero, List.setIfInBounds_toArray, List.set_cons_zero, List.set_cons_succ]
    refine wpAnyH_take (i := 6) (v := (.int .i64 yv)) rfl (by kernel_rfl) (by kernel_rfl) (by kernel_rfl) (fun _ _ _ h => h) (Or.inl ⟨by rfl, fun w _ => by simp [go_sem, execOp]⟩) hHeld ?_
    simp only [Act.put, List.getElem_toArray, List.getElem_cons_succ, List.getElem_cons_zero, List.setIfInBounds_toArray, List.set_cons_zero, List.set_cons_succ]
    refine wpAnyH_take (i := 7) (v := (.int .i64 0)) rfl (by kernel_rfl) (by kernel_rfl) (by kernel_rfl) (fun _ _ _ h => h) (Or.inl ⟨by rfl, fun w _ => by simp [go_sem, execOp]⟩) hHeld ?_
    simp only [Act.put, List.getElem_toArray, List.getElem_cons_succ, List.getElem_cons_zero, List.setIfInBounds_toArray, List.set_cons_zero, List.set_cons_succ]
    refine wpAnyH_take (i := 8) (v := (.int .i64 yv)) rfl (by kernel_rfl) (by kernel_rfl) (by kernel_rfl) (fun _ _ _ h => h) (Or.inl ⟨by rfl, fun w _ => by simp [go_sem, execOp]⟩) hHeld ?_
    simp only [Act.put, List.getElem_toArray, List.getElem_cons_succ, List.getElem_cons_zero, List.setIfInBounds_toArray, List.set_cons_zero, List.set_cons_succ]
    refine wpAnyH_take (i := 9) (v := (.int .i64 0)) rfl (by kernel_rfl) (by kernel_rfl) (by kernel_rfl) (fun _ _ _ h => h) (Or.inl ⟨by rfl, fun w _ => by simp [go_sem, execOp]⟩) hHeld ?_
    simp only [Act.put, List.getElem_toArray, List.getElem_cons_succ, List.getElem_cons_zero, List.setIfInBounds_toArray, List.set_cons_zero, List.set_cons_succ]
    refine wpAnyH_done (by kernel_rfl) ?_ _
    replace HA := Lib.hid (Byts.step hbx HA.out)
    replace HL := Lib.hid (Prs.step hbx HL.out)
    replace HM1 := Lib.hid (Blk.step hbx HM1.out)
    replace HB := Lib.hid (Bel.step hbx HB.out)
    clear hbx HA1
    have hab := HAB.out
    clear HAB
    unfold Ab at hab
    have w1_ : IntKind.i64.wrap (xv - an) = xv - an := wr64 (by omega) (by omega)
    have w2_ : IntKind.i64.wrap (an - xv) = an - xv := wr64 (by omega) (by omega)
    have w3_ : IntKind.i64.wrap (yv - an) = yv - an := wr64 (by omega) (by omega)
    have w4_ : IntKind.i64.wrap (an - yv) = an - yv := wr64 (by omega) (by omega)
    go_upto_region 26 with (fail)
    try generalize (if xv - an < an - xv then an - xv else xv - an) = z1_
    try generalize (if yv - an < an - yv then an - yv else yv - an) = z2_
    by_cases hk : k = 0
    rotate_left
    · have hkb : (k == 0) = false := by simpa using hk
      go_wp2
      go_ret
      exact ⟨rfl, HB.out⟩
    obtain ⟨e0, e1, ⟨s1, s2⟩, e2⟩ := HBM.out hk
    have HE0 := Lib.hid e0
    have HE1 := Lib.hid e1
    have HE2 := Lib.hid e2
    clear e0 e1 e2
    subst hk
    go_wp2_with fail
    go_at_call 55; refine (roll_c A c zs hz 2803 _ HA.out).mono ?_; rintro e w32 ⟨X, rfl, hX, hD, hb32⟩
    go_wp2_with fail
    go_at_call 56; refine (below_c X A zs 3 (by omega) (by omega) _ hD).mono ?_; rintro e w33 ⟨d, rfl, hd0, hd1, hD2, hk33⟩
    have hbx := Kp.bel hk33 hX hb32.size hb32
    replace HL := Lib.hid (Prs.step hbx HL.out)
    replace HM1 := Lib.hid (Blk.step hbx HM1.out)
    replace HB := Lib.hid (Bel.step hbx HB.out)
    clear hbx hk33 hD hD2 hX hb32 HA
    have ed : IntKind.i64.wrap (d - 1) = d - 1 := wr64 (by omega) (by omega)
    have hsq : -100000 ≤ st * (d - 1) ∧ st * (d - 1) ≤ 100000 := by rcases (show d = 0 ∨ d = 1 ∨ d = 2 by omega) with rfl | rfl | rfl <;> omega
    obtain ⟨sq, hsqe⟩ : ∃ k, k = st * (d - 1) := ⟨_, rfl⟩
    have es : IntKind.i64.wrap (st * (d - 1)) = sq := by rw [hsqe]; exact wr64 (by omega) (by omega)
    obtain ⟨f1, f2⟩ := HE2.out (d - 1) (by omega) (by omega)
    rw [← hsqe] at f1 f2 hsq
    clear hsqe
    have HF2 := Lib.hid f2
    go_wp2_with fail
    go_at_call 57; refine (BestShift_I sq (some ⟨g, 0, none⟩) q ts (by omega) _ (by repeat (with_reducible first | exact HL.out | assumption | refine Prs.drew ?_ | refine Prs.drewN _ ?_ | refine Prs.alloc _ ?_ | refine Prs.step (by assumption) ?_))).mono ?_; rintro e w34 ⟨rfl, hb34⟩; have hka := Bel.ka HB.out hb34 (by repeat (with_reducible first | exact Below.refl _ _ | refine Bel.alloc ?_ _ | refine Below.drew ?_ | refine Bel.drewN ?_ _)); (try (replace HM1 := Lib.hid (Blk.step hb34 (Blk.step hka HM1.out)))); replace HB := Lib.hid (Bel.step hb34 (Bel.step hka HB.out)); have hsz34 := hb34.size; have hsy34 := hka.size; (try simp only [World.size_alloc, World.size_drew, World.heap_drewN, World.size_setCell] at hsz34 hsy34); clear hka hb34
    rw [f1]
    clear f1 f2 hsz34 hsy34
    have f2 := HF2.out
    clear HF2
    generalize bShF sq ts = nb at f2 ⊢
    generalize bShV sq ts = nv
    have x0 : (w34).cell? ⟨w2.heap.size, 0, none⟩ = some (.int .i64 m0) := by rw [HM1.out.cell]; rfl
    have x1 : (w34).cell? ⟨w2.heap.size, 1, none⟩ = some (.int .i64 m1) := by rw [HM1.out.cell]; rfl
    have hst : st ≠ 0 := by omega
    have e0 := HE0.out
    go_wp2_with fail
    go_at_call 58; refine (isModel_I m0 m1 _).mono ?_; rintro e w35 ⟨rfl, hb35⟩; have hka := Bel.ka HB.out hb35 (by repeat (with_reducible first | exact Below.refl _ _ | refine Bel.alloc ?_ _ | refine Below.drew ?_ | refine Bel.drewN ?_ _)); replace HB := Lib.hid (Bel.step hb35 (Bel.step hka HB.out)); have hsz35 := hb35.size; have hsy35 := hka.size; (try simp only [World.size_alloc, World.size_drew, World.heap_drewN, World.size_setCell] at hsz35 hsy35); clear hka hb35
    rw [HE1.out]
    go_wp2
    go_ret
    exact ⟨rfl, HB.out⟩
  · have hlv : ¬ lim < fv := fun h => hnl (e1.2 h)
    have hni : ¬ (0 : Int) < (nl : Int) := by omega
    clear e1
    go_upto_region 21 with (fail)
    obtain ⟨W, rfl⟩ : ∃ U : World, U = w18 := ⟨_, rfl⟩
    by_cases hkc : kc = 0
    rotate_left
    · have hkcb : (kc == 0) = false := by simpa using hkc
      go_upto_region 26 with (fail)
      by_cases hk : k = 0
      rotate_left
      · have hkb : (k == 0) = false := by simpa using hk
        go_wp2
        go_ret
        exact ⟨rfl, HB.out⟩
      obtain ⟨e0, e1, ⟨s1, s2⟩, e2⟩ := HBM.out hk
      have HE0 := Lib.hid e0
      have HE1 := Lib.hid e1
      have HE2 := Lib.hid e2
      clear e0 e1 e2
      subst hk
      go_wp2_with fail
      go_at_call 55; refine (roll_c A c zs hz 2803 _ HA.out).mono ?_; rintro e w32 ⟨X, rfl, hX, hD, hb32⟩
      go_wp2_with fail
      go_at_call 56; refine (below_c X A zs 3 (by omega) (by omega) _ hD).mono ?_; rintro e w33 ⟨d, rfl, hd0, hd1, hD2, hk33⟩
      have hbx := Kp.bel hk33 hX hb32.size hb32
      replace HL := Lib.hid (Prs.step hbx HL.out)
      replace HM1 := Lib.hid (Blk.step hbx HM1.out)
      replace HB := Lib.hid (Bel.step hbx HB.out)
      clear hbx hk33 hD hD2 hX hb32 HA
      have ed : IntKind.i64.wrap (d - 1) = d - 1 := wr64 (by omega) (by omega)
      have hsq : -100000 ≤ st * (d - 1) ∧ st * (d - 1) ≤ 100000 := by rcases (show d = 0 ∨ d = 1 ∨ d = 2 by omega) with rfl | rfl | rfl <;> omega
      obtain ⟨sq, hsqe⟩ : ∃ k, k = st * (d - 1) := ⟨_, rfl⟩
      have es : IntKind.i64.wrap (st * (d - 1)) = sq := by rw [hsqe]; exact wr64 (by omega) (by omega)
      obtain ⟨f1, f2⟩ := HE2.out (d - 1) (by omega) (by omega)
      rw [← hsqe] at f1 f2 hsq
      clear hsqe
      have HF2 := Lib.hid f2
      go_wp2_with fail
      go_at_call 57; refine (BestShift_I sq (some ⟨g, 0, none⟩) q ts (by omega) _ (by repeat (with_reducible first | exact HL.out | assumption | refine Prs.drew ?_ | refine Prs.drewN _ ?_ | refine Prs.alloc _ ?_ | refine Prs.step (by assumption) ?_))).mono ?_; rintro e w34 ⟨rfl, hb34⟩; have hka := Bel.ka HB.out hb34 (by repeat (with_reducible first | exact Below.refl _ _ | refine Bel.alloc ?_ _ | refine Below.drew ?_ | refine Bel.drewN ?_ _)); (try (replace HM1 := Lib.hid (Blk.step hb34 (Blk.step hka HM1.out)))); replace HB := Lib.hid (Bel.step hb34 (Bel.step hka HB.out)); have hsz34 := hb34.size; have hsy34 := hka.size; (try simp only [World.size_alloc, World.size_drew, World.heap_drewN, World.size_setCell] at hsz34 hsy34); clear hka hb34
      rw [f1]
      clear f1 f2 hsz34 hsy34
      have f2 := HF2.out
      clear HF2
      generalize bShF sq ts = nb at f2 ⊢
      generalize bShV sq ts = nv
      have x0 : (w34).cell? ⟨w2.heap.size, 0, none⟩ = some (.int .i64 m0) := by rw [HM1.out.cell]; rfl
      have x1 : (w34).cell? ⟨w2.heap.size, 1, none⟩ = some (.int .i64 m1) := by rw [HM1.out.cell]; rfl
      have hst : st ≠ 0 := by omega
      have e0 := HE0.out
      go_wp2_with fail
      go_at_call 58; refine (isModel_I m0 m1 _).mono ?_; rintro e w35 ⟨rfl, hb35⟩; have hka := Bel.ka HB.out hb35 (by repeat (with_reducible first | exact Below.refl _ _ | refine Bel.alloc ?_ _ | refine Below.drew ?_ | refine Bel.drewN ?_ _)); replace HB := Lib.hid (Bel.step hb35 (Bel.step hka HB.out)); have hsz35 := hb35.size; have hsy35 := hka.size; (try simp only [World.size_alloc, World.size_drew, World.heap_drewN, World.size_setCell] at hsz35 hsy35); clear hka hb35
      rw [HE1.out]
      go_wp2
      go_ret
      exact ⟨rfl, HB.out⟩
    obtain ⟨⟨n1, n2⟩, pp, hpp, e0, ⟨v1, v2⟩, e1⟩ := HCP.out hkc
    subst hpp
    have HE1 := Lib.hid e1
    clear e1
    subst hkc
    have x0 : (W).cell? ⟨w4.heap.size, 0, none⟩ = some (.int .i64 ax) := by rw [HA1.out.cell]; rfl
    have x1 : (W).cell? ⟨w4.heap.size, 1, none⟩ = some (.int .i64 ay) := by rw [HA1.out.cell]; rfl
    go_wp2_with fail
    go_at_call 54; refine (SeenAt_I ax ay p _).mono ?_; rintro e w22 ⟨rfl, hb22⟩; have hka := Bel.ka HB.out hb22 (by repeat (with_reducible first | exact Below.refl _ _ | refine Bel.alloc ?_ _ | refine Below.drew ?_ | refine Bel.drewN ?_ _)); (try (replace HM1 := Lib.hid (Blk.step hb22 (Blk.step hka HM1.out)))); (try (replace HA1 := Lib.hid (Blk.step hb22 (Blk.step hka HA1.out)))); (try (replace HL := Lib.hid (Prs.step hb22 (Prs.step hka HL.out)))); (try (replace HA := Lib.hid (Byts.step hb22 (Byts.step hka HA.out)))); replace HB := Lib.hid (Bel.step hb22 (Bel.step hka HB.out)); have hsz22 := hb22.size; have hsy22 := hka.size; (try simp only [World.size_alloc, World.size_drew, World.heap_drewN, World.size_setCell] at hsz22 hsy22); clear hka hb22
    clear hsz22 hsy22
    clear x0 x1
    rw [e0]
    clear e0
    obtain ⟨xv, hxv⟩ : ∃ k, k = seenAtV ax ay p := ⟨_, rfl⟩
    rw [← hxv] at v1 v2 ⊢
    have HXV := Lib.hid hxv
    clear hxv
    go_upto_region 23 with (fail)
    refine wp_region_held_drew (S := fun W => Blk W w4.heap.size 73 #[.int .i64 ax, .int .i64 ay] ∧ True) (by kernel_rfl) (⟨HA1.out.drew, trivial⟩) (fun hHeld => ?_)
    replace HA1 := Lib.hid HA1.out.drew
    replace HL := Lib.hid HL.out.drew
    replace HM1 := Lib.hid HM1.out.drew
    replace HA := Lib.hid (Byts.step (Below.drew (Below.refl _ _)) HA.out)
    replace HB := Lib.hid (Below.drew HB.out)
    generalize w22.drew = v23 at HA1 HL HM1 HA HB hHeld ⊢
    refine wpAnyH_take (i := 0) (v := .agg #[.int .i64 ax, .int .i64 ay]) rfl (by kernel_rfl) (by kernel_rfl) (by kernel_rfl) (fun _ _ _ h => h) (yieldsIf_load_blk 73 _ (w4.heap.size) (fun _ h => h.1) Try.underlying73 (by kernel_rfl) (by rfl) rfl rfl) hHeld ?_
    simp only [Act.put, List.getElem_toArray, List.getElem_cons_succ, List.getElem_cons_zero, List.setIfInBounds_toArray, List.set_cons_zero, List.set_cons_succ]
    refine wpAnyH_take (i := 1) (v := (.slice A zs.length c)) rfl (by kernel_rfl) (by kernel_rfl) (by kernel_rfl) (fun _ _ _ h => h) (Or.inl ⟨by rfl, fun w _ => by simp [go_sem, execOp]⟩) hHeld ?_
    simp only [Act.put, List.getElem_toArray, List.getElem_cons_succ, List.getElem_cons_zero, List.setIfInBounds_toArray, List.set_cons_zero, List.set_cons_succ]
    refine wpAnyH_ready (rs := [2]) (by kernel_rfl) (by simp) ?_
    refine AllReadyH.cons rfl (fun K hK => ?_) (AllReadyH.nil)
    go_simp
    go_at_call 55; refine (roll_c A c zs hz 2802 _ HA.out).mono ?_; rintro e w24 ⟨X, rfl, hX, hD, hb24⟩
    have hbx := hb24
    refine hK.out _ _ (⟨Blk.step hbx HA1.out, trivial⟩) (fun hHeld => ?_)
    clear hK K
    try simp only [Act.put, List.setIfInBounds_toArray, List.set_cons_zero, List.set_cons_succ]
    refine wpAnyH_ready (rs := [3]) (by kernel_rfl) (by simp) ?_
    refine AllReadyH.cons rfl (fun K hK => ?_) (AllReadyH.nil)
    go_simp
    go_at_call 56; refine (below_c X A zs 100001 (by omega) (by omega) _ hD).mono ?_; rintro e w25 ⟨d, rfl, hd0, hd1, hD2, hk25⟩
    replace hbx := Kp.bel hk25 hX hb24.size hbx
    clear hk25 hD hD2 hX hb24
    refine hK.out _ _ (⟨Blk.step hbx HA1.out, trivial⟩) (fun hHeld => ?_)
    clear hK K
    try simp only [Act.put, List.setIfInBounds_toArray, List.set_cons_zero, List.set_cons_succ]
    refine wpAnyH_ready (rs := [4]) (by kernel_rfl) (by simp) ?_
    refine AllReadyH.cons rfl (fun K hK => ?_) (AllReadyH.nil)
    go_simp
    go_at_call 54; refine (SeenAt_I ax ay d _).mono ?_; rintro e w26 ⟨rfl, hb26⟩
    replace hbx := Bel.step hb26 hbx
    clear hb26
    obtain ⟨g0, ⟨g1, g2⟩, g3⟩ := HE1.out d (by omega) (by omega)
    rw [g0]
    rw [← HXV.out] at g3
    obtain ⟨yv, hyv⟩ : ∃ k, k = seenAtV ax ay d := ⟨_, rfl⟩
    rw [← hyv] at g1 g2 g3 ⊢
    clear hyv g0 HE1 HXV
    have hab : Ab (xv - an) ≤ Ab (yv - an) := by unfold Ab at g3 ⊢; (repeat' split at g3) <;> (repeat' split) <;> omega
    have HAB := Lib.hid hab
    clear g3 hab
    refine hK.out _ _ (⟨Blk.step hbx HA1.out, trivial⟩) (fun hHeld => ?_)
    clear hK K
    try simp only [Act.put, List.setIfInBounds_toArray, List.set_cons_zero, List.set_cons_succ]
    refine wpAnyH_take (i := 5) (v := (.tuple #[.int .i64 yv, .int .i64 0])) rfl (by kernel_rfl) (by kernel_rfl) (by kernel_rfl) (fun _ _ _ h => h) (Or.inl ⟨by rfl, fun w _ => by simp [go_sem, execOp]⟩) hHeld ?_
    simp only [Act.put, List.getElem_toArray, List.getElem_cons_succ, List.getElem_cons_zero, List.setIfInBounds_toArray, List.set_cons_zero, List.set_cons_succ]
    refine wpAnyH_take (i := 6) (v := (.int .i64 yv)) rfl (by kernel_rfl) (by kernel_rfl) (by kernel_rfl) (fun _ _ _ h => h) (Or.inl ⟨by rfl, fun w _ => by simp [go_sem, execOp]⟩) hHeld ?_
    simp only [Act.put, List.getElem_toArray, List.getElem_cons_succ, List.getElem_cons_zero, List.setIfInBounds_toArray, List.set_cons_zero, List.set_cons_succ]
    refine wpAnyH_take (i := 7) (v := (.int .i64 0)) rfl (by kernel_rfl) (by kernel_rfl) (by kernel_rfl) (fun _ _ _ h => h) (Or.inl ⟨by rfl, fun w _ => by simp [go_sem, execOp]⟩) hHeld ?_
    simp only [Act.put, List.getElem_toArray, List.getElem_cons_succ, List.getElem_cons_zero, List.setIfInBounds_toArray, List.set_cons_zero, List.set_cons_succ]
    refine wpAnyH_take (i := 8) (v := (.int .i64 yv)) rfl (by kernel_rfl) (by kernel_rfl) (by kernel_rfl) (fun _ _ _ h => h) (Or.inl ⟨by rfl, fun w _ => by simp [go_sem, execOp]⟩) hHeld ?_
    simp only [Act.put, List.getElem_toArray, List.getElem_cons_succ, List.getElem_cons_zero, List.setIfInBounds_toArray, List.set_cons_zero, List.set_cons_succ]
    refine wpAnyH_take (i := 9) (v := (.int .i64 0)) rfl (by kernel_rfl) (by kernel_rfl) (by kernel_rfl) (fun _ _ _ h => h) (Or.inl ⟨by rfl, fun w _ => by simp [go_sem, execOp]⟩) hHeld ?_
    simp only [Act.put, List.getElem_toArray, List.getElem_cons_succ, List.getElem_cons_zero, List.setIfInBounds_toArray, List.set_cons_zero, List.set_cons_succ]
    refine wpAnyH_done (by kernel_rfl) ?_ _
    replace HA := Lib.hid (Byts.step hbx HA.out)
    replace HL := Lib.hid (Prs.step hbx HL.out)
    replace HM1 := Lib.hid (Blk.step hbx HM1.out)
    replace HB := Lib.hid (Bel.step hbx HB.out)
    clear hbx HA1
    have hab := HAB.out
    clear HAB
    unfold Ab at hab
    have w1_ : IntKind.i64.wrap (xv - an) = xv - an := wr64 (by omega) (by omega)
    have w2_ : IntKind.i64.wrap (an - xv) = an - xv := wr64 (by omega) (by omega)
    have w3_ : IntKind.i64.wrap (yv - an) = yv - an := wr64 (by omega) (by omega)
    have w4_ : IntKind.i64.wrap (an - yv) = an - yv := wr64 (by omega) (by omega)
    go_upto_region 26 with (fail)
    try generalize (if xv - an < an - xv then an - xv else xv - an) = z1_
    try generalize (if yv - an < an - yv then an - yv else yv - an) = z2_
    by_cases hk : k = 0
    rotate_left
    · have hkb : (k == 0) = false := by simpa using hk
      go_wp2
      go_ret
      exact ⟨rfl, HB.out⟩
    obtain ⟨e0, e1, ⟨s1, s2⟩, e2⟩ := HBM.out hk
    have HE0 := Lib.hid e0
    have HE1 := Lib.hid e1
    have HE2 := Lib.hid e2
    clear e0 e1 e2
    subst hk
    go_wp2_with fail
    go_at_call 55; refine (roll_c A c zs hz 2803 _ HA.out).mono ?_; rintro e w32 ⟨X, rfl, hX, hD, hb32⟩
    go_wp2_with fail
    go_at_call 56; refine (below_c X A zs 3 (by omega) (by omega) _ hD).mono ?_; rintro e w33 ⟨d, rfl, hd0, hd1, hD2, hk33⟩
    have hbx := Kp.bel hk33 hX hb32.size hb32
    replace HL := Lib.hid (Prs.step hbx HL.out)
    replace HM1 := Lib.hid (Blk.step hbx HM1.out)
    replace HB := Lib.hid (Bel.step hbx HB.out)
    clear hbx hk33 hD hD2 hX hb32 HA
    have ed : IntKind.i64.wrap (d - 1) = d - 1 := wr64 (by omega) (by omega)
    have hsq : -100000 ≤ st * (d - 1) ∧ st * (d - 1) ≤ 100000 := by rcases (show d = 0 ∨ d = 1 ∨ d = 2 by omega) with rfl | rfl | rfl <;> omega
    obtain ⟨sq, hsqe⟩ : ∃ k, k = st * (d - 1) := ⟨_, rfl⟩
    have es : IntKind.i64.wrap (st * (d - 1)) = sq := by rw [hsqe]; exact wr64 (by omega) (by omega)
    obtain ⟨f1, f2⟩ := HE2.out (d - 1) (by omega) (by omega)
    rw [← hsqe] at f1 f2 hsq
    clear hsqe
    have HF2 := Lib.hid f2
    go_wp2_with fail
    go_at_call 57; refine (BestShift_I sq (some ⟨g, 0, none⟩) q ts (by omega) _ (by repeat (with_reducible first | exact HL.out | assumption | refine Prs.drew ?_ | refine Prs.drewN _ ?_ | refine Prs.alloc _ ?_ | refine Prs.step (by assumption) ?_))).mono ?_; rintro e w34 ⟨rfl, hb34⟩; have hka := Bel.ka HB.out hb34 (by repeat (with_reducible first | exact Below.refl _ _ | refine Bel.alloc ?_ _ | refine Below.drew ?_ | refine Bel.drewN ?_ _)); (try (replace HM1 := Lib.hid (Blk.step hb34 (Blk.step hka HM1.out)))); replace HB := Lib.hid (Bel.step hb34 (Bel.step hka HB.out)); have hsz34 := hb34.size; have hsy34 := hka.size; (try simp only [World.size_alloc, World.size_drew, World.heap_drewN, World.size_setCell] at hsz34 hsy34); clear hka hb34
    rw [f1]
    clear f1 f2 hsz34 hsy34
    have f2 := HF2.out
    clear HF2
    generalize bShF sq ts = nb at f2 ⊢
    generalize bShV sq ts = nv
    have x0 : (w34).cell? ⟨w2.heap.size, 0, none⟩ = some (.int .i64 m0) := by rw [HM1.out.cell]; rfl
    have x1 : (w34).cell? ⟨w2.heap.size, 1, none⟩ = some (.int .i64 m1) := by rw [HM1.out.cell]; rfl
    have hst : st ≠ 0 := by omega
    have e0 := HE0.out
    go_wp2_with fail
    go_at_call 58; refine (isModel_I m0 m1 _).mono ?_; rintro e w35 ⟨rfl, hb35⟩; have hka := Bel.ka HB.out hb35 (by repeat (with_reducible first | exact Below.refl _ _ | refine Bel.alloc ?_ _ | refine Below.drew ?_ | refine Bel.drewN ?_ _)); replace HB := Lib.hid (Bel.step hb35 (Bel.step hka HB.out)); have hsz35 := hb35.size; have hsy35 := hka.size; (try simp only [World.size_alloc, World.size_drew, World.heap_drewN, World.size_setCell] at hsz35 hsy35); clear hka hb35
    rw [HE1.out]
    go_wp2
    go_ret
    exact ⟨rfl, HB.out⟩
end Go.Proofs.Ytpmcgicopogbhaa
