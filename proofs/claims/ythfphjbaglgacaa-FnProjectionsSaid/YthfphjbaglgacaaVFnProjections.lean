/- The statement FnProjections, walked. No conditions. -/
import Derived.Test.YthfphjbaglgacaaProg
import Derived.Test.YthfphjbaglgacaaBase
import Derived.Test.YthfphjbaglgacaaRw
import Derived.Test.YthfphjbaglgacaaRg
import Derived.Test.YthfphjbaglgacaaL01
import Derived.Test.YthfphjbaglgacaaCp
import Derived.Test.YthfphjbaglgacaaL22
import Derived.Test.YthfphjbaglgacaaL25
import Derived.Test.YthfphjbaglgacaaL25b
import Derived.Test.YthfphjbaglgacaaL25c
import Derived.Test.YthfphjbaglgacaaL25d
import Derived.Test.YthfphjbaglgacaaL25e
import Derived.Test.YthfphjbaglgacaaL25f
import Derived.Test.YthfphjbaglgacaaL25g
import Derived.Test.YthfphjbaglgacaaL25h
import Derived.Test.YthfphjbaglgacaaL25i
import Derived.Test.YthfphjbaglgacaaP25
import Derived.Test.YthfphjbaglgacaaE24
import Derived.Test.YthfphjbaglgacaaE23
import Derived.Test.YthfphjbaglgacaaE25
import Derived.Test.YthfphjbaglgacaaD00
import Derived.Test.YthfphjbaglgacaaD01
import Derived.Test.YthfphjbaglgacaaD25
import Derived.Test.YthfphjbaglgacaaD25b
import Derived.WalkKit
import Derived.WalkSpells
import Derived.WalkLawsBesides
import Derived.Lib.Hide
import Derived.Deep.QuietTactic
import Derived.BigQuiet
import Derived.Deep.Draws
import Derived.Deep.RegionHeld3
import Derived.Deep.Cut
namespace Go.Proofs.Ythfphjbaglgacaa
open Go.RowKit
set_option linter.unusedVariables false
set_option linter.unusedSimpArgs false
theorem isPr_len {m : List Int} (h : isPr m = true) : m.length = 9 := by
  simp only [isPr, Bool.and_eq_true, decide_eq_true_eq] at h
  exact h.1.2
set_option maxRecDepth 50000 in
set_option maxHeartbeats 16000000 in
theorem FnProjections_w (w : World) (A : Option Addr) (c : Nat) (zs : List Int) (hl : zs.length ≤ 9223372036854775807) (hA : Byts w A zs) :
    Calls Try.prog 4 #[.slice A zs.length c] w fun e w' => e = .returned (.bool true) ∧ Below w.heap.size w w' := by
  have HB := Lib.hid (Below.refl w.heap.size w)
  by_cases hz : zs.length ≤ 4096
  rotate_left
  · go_enter Try.func4, Try.ntmps4
    go_wp2_with fail
    go_at_call 9; refine (big_yes A c zs.length (by omega) _).mono ?_; rintro e w' ⟨rfl, rfl⟩
    go_wp2
    go_ret
    exact ⟨rfl, HB.out⟩
  have HA := Lib.hid hA
  clear hA hl
  go_enter Try.func4, Try.ntmps4
  go_wp2_with fail
  go_at_call 9; refine (big_no A c zs.length hz _).mono ?_; rintro e w' ⟨rfl, rfl⟩
  go_wp2_with fail
  go_at_call 23; refine (DrawProjectPoint_c A c zs hz _ HA.out).mono ?_; rintro e w1 ⟨m, g, q, x, y, z, rfl, hm, hO, hb1⟩; have hka := Bel.ka HB.out hb1 (by repeat (with_reducible first | exact Below.refl _ _ | refine Bel.alloc ?_ _ | refine Below.drew ?_ | refine Bel.drewN ?_ _)); (try (replace HA := Lib.hid (Byts.step hb1 (Byts.step hka HA.out)))); replace HB := Lib.hid (Bel.step hb1 (Bel.step hka HB.out)); have hsz1 := hb1.size; have hsy1 := hka.size; (try simp only [World.size_alloc, World.size_drew, World.heap_drewN, World.size_setCell] at hsz1 hsy1); clear hka hb1
  have HI := Lib.hid hO.ints
  have hm' : m.length ≤ 1048576 := by omega
  clear hO
  have HP := Lib.hid (by have h := Blk.new w1 45 #[.int .i64 x, .int .i64 y, .int .i64 z]; (try simp only [World.size_alloc] at h); exact h)
  replace HI := Lib.hid (Ints.alloc (.cells #[.int .i64 x, .int .i64 y, .int .i64 z] 45) HI.out)
  replace HA := Lib.hid (Byts.alloc (.cells #[.int .i64 x, .int .i64 y, .int .i64 z] 45) HA.out)
  replace HB := Lib.hid (Bel.alloc HB.out (.cells #[.int .i64 x, .int .i64 y, .int .i64 z] 45))
  go_wp2_with (first | (refine wpList_load_blkG 45 _ _ (Blk.step (Bel.ka0 HB.out (by repeat (with_reducible first | exact Below.refl _ _ | refine Bel.alloc ?_ _ | refine Below.drew ?_ | refine Bel.drewN ?_ _))) HP.out) Try.underlying45 (by kernel_rfl) rfl rfl (by rfl) ?_))
  go_at_call 24; refine (ProjectPoint_I (some ⟨g, 0, none⟩) q m hm' x y z _ (by repeat (with_reducible first | exact HI.out | assumption | refine Ints.drew ?_ | refine Ints.drewN _ ?_ | refine Ints.alloc _ ?_ | refine Ints.step (by assumption) ?_))).mono ?_; rintro e w2 ⟨rfl, hb2⟩; have hka := Bel.ka HB.out hb2 (by repeat (with_reducible first | exact Below.refl _ _ | refine Bel.alloc ?_ _ | refine Below.drew ?_ | refine Bel.drewN ?_ _)); (try (replace HP := Lib.hid (Blk.step hb2 (Blk.step hka HP.out)))); (try (replace HI := Lib.hid (Ints.step hb2 (Ints.step hka HI.out)))); (try (replace HA := Lib.hid (Byts.step hb2 (Byts.step hka HA.out)))); replace HB := Lib.hid (Bel.step hb2 (Bel.step hka HB.out)); have hsz2 := hb2.size; have hsy2 := hka.size; (try simp only [World.size_alloc, World.size_drew, World.heap_drewN, World.size_setCell] at hsz2 hsy2); clear hka hb2
  obtain ⟨k, hk⟩ : ∃ k, k = prjC m x y z := ⟨_, rfl⟩
  obtain ⟨a0, h0⟩ : ∃ k, k = prjV m x y z 0 := ⟨_, rfl⟩
  obtain ⟨a1, h1⟩ : ∃ k, k = prjV m x y z 1 := ⟨_, rfl⟩
  obtain ⟨a2, h2⟩ : ∃ k, k = prjV m x y z 2 := ⟨_, rfl⟩
  rw [← hk, ← h0, ← h1, ← h2]
  have HK := Lib.hid hk
  have HQ := Lib.hid (And.intro h0 (And.intro h1 h2))
  clear hk h0 h1 h2
  have HX := Lib.hid (by have h := Blk.new w2 45 #[.int .i64 a0, .int .i64 a1, .int .i64 a2]; (try simp only [World.size_alloc] at h); exact h)
  replace HP := Lib.hid (Blk.alloc (.cells #[.int .i64 a0, .int .i64 a1, .int .i64 a2] 45) HP.out)
  replace HI := Lib.hid (Ints.alloc (.cells #[.int .i64 a0, .int .i64 a1, .int .i64 a2] 45) HI.out)
  replace HA := Lib.hid (Byts.alloc (.cells #[.int .i64 a0, .int .i64 a1, .int .i64 a2] 45) HA.out)
  replace HB := Lib.hid (Bel.alloc HB.out (.cells #[.int .i64 a0, .int .i64 a1, .int .i64 a2] 45))
  go_wp2_with (first | (refine wpList_load_blkG 45 _ _ (Blk.step (Bel.ka0 HB.out (by repeat (with_reducible first | exact Below.refl _ _ | refine Bel.alloc ?_ _ | refine Below.drew ?_ | refine Bel.drewN ?_ _))) HP.out) Try.underlying45 (by kernel_rfl) rfl rfl (by rfl) ?_))
  go_at_call 25; refine (ProjectPoint_S (some ⟨g, 0, none⟩) q m hm' x y z _ (by repeat (with_reducible first | exact HI.out | assumption | refine Ints.drew ?_ | refine Ints.drewN _ ?_ | refine Ints.alloc _ ?_ | refine Ints.step (by assumption) ?_))).mono ?_; rintro e w3 ⟨rfl, hb3⟩; have hka := Bel.ka HB.out hb3 (by repeat (with_reducible first | exact Below.refl _ _ | refine Bel.alloc ?_ _ | refine Below.drew ?_ | refine Bel.drewN ?_ _)); (try (replace HP := Lib.hid (Blk.step hb3 (Blk.step hka HP.out)))); (try (replace HX := Lib.hid (Blk.step hb3 (Blk.step hka HX.out)))); (try (replace HI := Lib.hid (Ints.step hb3 (Ints.step hka HI.out)))); (try (replace HA := Lib.hid (Byts.step hb3 (Byts.step hka HA.out)))); replace HB := Lib.hid (Bel.step hb3 (Bel.step hka HB.out)); have hsz3 := hb3.size; have hsy3 := hka.size; (try simp only [World.size_alloc, World.size_drew, World.heap_drewN, World.size_setCell] at hsz3 hsy3); clear hka hb3
  rw [← HK.out, ← HQ.out.1, ← HQ.out.2.1, ← HQ.out.2.2]
  have HX2 := Lib.hid (by have h := Blk.new w3 45 #[.int .i64 a0, .int .i64 a1, .int .i64 a2]; (try simp only [World.size_alloc] at h); exact h)
  replace HP := Lib.hid (Blk.alloc (.cells #[.int .i64 a0, .int .i64 a1, .int .i64 a2] 45) HP.out)
  replace HX := Lib.hid (Blk.alloc (.cells #[.int .i64 a0, .int .i64 a1, .int .i64 a2] 45) HX.out)
  replace HI := Lib.hid (Ints.alloc (.cells #[.int .i64 a0, .int .i64 a1, .int .i64 a2] 45) HI.out)
  replace HA := Lib.hid (Byts.alloc (.cells #[.int .i64 a0, .int .i64 a1, .int .i64 a2] 45) HA.out)
  replace HB := Lib.hid (Bel.alloc HB.out (.cells #[.int .i64 a0, .int .i64 a1, .int .i64 a2] 45))
  go_wp2_with fail
  go_at_call 26; refine (DrawInverseProjection_c A c zs hz _ HA.out).mono ?_; rintro e w4 ⟨n, gn, qn, rfl, hn, hO, hb4⟩; have hka := Bel.ka HB.out hb4 (by repeat (with_reducible first | exact Below.refl _ _ | refine Bel.alloc ?_ _ | refine Below.drew ?_ | refine Bel.drewN ?_ _)); (try (replace HP := Lib.hid (Blk.step hb4 (Blk.step hka HP.out)))); (try (replace HX := Lib.hid (Blk.step hb4 (Blk.step hka HX.out)))); (try (replace HX2 := Lib.hid (Blk.step hb4 (Blk.step hka HX2.out)))); (try (replace HI := Lib.hid (Ints.step hb4 (Ints.step hka HI.out)))); (try (replace HA := Lib.hid (Byts.step hb4 (Byts.step hka HA.out)))); replace HB := Lib.hid (Bel.step hb4 (Bel.step hka HB.out)); have hsz4 := hb4.size; have hsy4 := hka.size; (try simp only [World.size_alloc, World.size_drew, World.heap_drewN, World.size_setCell] at hsz4 hsy4); clear hka hb4
  have HJ := Lib.hid hO.ints
  have hn' : n.length ≤ 1048576 := by omega
  clear hO
  go_wp2_with fail
  go_at_call 27; refine (InverseProjection_I (some ⟨gn, 0, none⟩) qn n hn' _ (by repeat (with_reducible first | exact HJ.out | assumption | refine Ints.drew ?_ | refine Ints.drewN _ ?_ | refine Ints.alloc _ ?_ | refine Ints.step (by assumption) ?_))).mono ?_; rintro e w5 ⟨v5, rfl, hO5, hb5⟩; have hka := Bel.ka HB.out hb5 (by repeat (with_reducible first | exact Below.refl _ _ | refine Bel.alloc ?_ _ | refine Below.drew ?_ | refine Bel.drewN ?_ _)); (try (replace HP := Lib.hid (Blk.step hb5 (Blk.step hka HP.out)))); (try (replace HX := Lib.hid (Blk.step hb5 (Blk.step hka HX.out)))); (try (replace HX2 := Lib.hid (Blk.step hb5 (Blk.step hka HX2.out)))); (try (replace HI := Lib.hid (Ints.step hb5 (Ints.step hka HI.out)))); (try (replace HJ := Lib.hid (Ints.step hb5 (Ints.step hka HJ.out)))); (try (replace HA := Lib.hid (Byts.step hb5 (Byts.step hka HA.out)))); replace HB := Lib.hid (Bel.step hb5 (Bel.step hka HB.out)); have hsz5 := hb5.size; have hsy5 := hka.size; (try simp only [World.size_alloc, World.size_drew, World.heap_drewN, World.size_setCell] at hsz5 hsy5); clear hka hb5
  obtain ⟨A5, c5, rfl, _, _, hI5, _⟩ := hO5.form
  have H5 := Lib.hid hI5
  clear hI5 hO5
  go_wp2_with fail
  go_at_call 28; refine (InverseProjection_S (some ⟨gn, 0, none⟩) qn n hn' _ (by repeat (with_reducible first | exact HJ.out | assumption | refine Ints.drew ?_ | refine Ints.drewN _ ?_ | refine Ints.alloc _ ?_ | refine Ints.step (by assumption) ?_))).mono ?_; rintro e w6 ⟨v6, rfl, hO6, hb6⟩; have hka := Bel.ka HB.out hb6 (by repeat (with_reducible first | exact Below.refl _ _ | refine Bel.alloc ?_ _ | refine Below.drew ?_ | refine Bel.drewN ?_ _)); (try (replace HP := Lib.hid (Blk.step hb6 (Blk.step hka HP.out)))); (try (replace HX := Lib.hid (Blk.step hb6 (Blk.step hka HX.out)))); (try (replace HX2 := Lib.hid (Blk.step hb6 (Blk.step hka HX2.out)))); (try (replace HI := Lib.hid (Ints.step hb6 (Ints.step hka HI.out)))); (try (replace H5 := Lib.hid (Ints.step hb6 (Ints.step hka H5.out)))); (try (replace HA := Lib.hid (Byts.step hb6 (Byts.step hka HA.out)))); replace HB := Lib.hid (Bel.step hb6 (Bel.step hka HB.out)); have hsz6 := hb6.size; have hsy6 := hka.size; (try simp only [World.size_alloc, World.size_drew, World.heap_drewN, World.size_setCell] at hsz6 hsy6); clear hka hb6
  obtain ⟨A6, c6, rfl, _, _, hI6, _⟩ := hO6.form
  have H6 := Lib.hid hI6
  clear hI6 hO6
  have hi9 := invR_len n
  generalize invR n = ni at *
  generalize invC n = kn at *
  go_wp2_with fail
  go_at_call 29; refine (DrawRationalsInLine_c A c zs hz _ HA.out).mono ?_; rintro e w7 ⟨ua, ub, uc, va, vb, vc, ta, tb, tc, rfl, hb7⟩; have hka := Bel.ka HB.out hb7 (by repeat (with_reducible first | exact Below.refl _ _ | refine Bel.alloc ?_ _ | refine Below.drew ?_ | refine Bel.drewN ?_ _)); (try (replace HP := Lib.hid (Blk.step hb7 (Blk.step hka HP.out)))); (try (replace HX := Lib.hid (Blk.step hb7 (Blk.step hka HX.out)))); (try (replace HX2 := Lib.hid (Blk.step hb7 (Blk.step hka HX2.out)))); (try (replace HI := Lib.hid (Ints.step hb7 (Ints.step hka HI.out)))); (try (replace H5 := Lib.hid (Ints.step hb7 (Ints.step hka H5.out)))); (try (replace H6 := Lib.hid (Ints.step hb7 (Ints.step hka H6.out)))); replace HB := Lib.hid (Bel.step hb7 (Bel.step hka HB.out)); have hsz7 := hb7.size; have hsy7 := hka.size; (try simp only [World.size_alloc, World.size_drew, World.heap_drewN, World.size_setCell] at hsz7 hsy7); clear hka hb7
  clear HA
  have HU := Lib.hid (by have h := Blk.new w7 45 #[.int .i64 ua, .int .i64 ub, .int .i64 uc]; (try simp only [World.size_alloc] at h); exact h)
  replace HP := Lib.hid (Blk.alloc (.cells #[.int .i64 ua, .int .i64 ub, .int .i64 uc] 45) HP.out)
  replace HX := Lib.hid (Blk.alloc (.cells #[.int .i64 ua, .int .i64 ub, .int .i64 uc] 45) HX.out)
  replace HX2 := Lib.hid (Blk.alloc (.cells #[.int .i64 ua, .int .i64 ub, .int .i64 uc] 45) HX2.out)
  replace HI := Lib.hid (Ints.alloc (.cells #[.int .i64 ua, .int .i64 ub, .int .i64 uc] 45) HI.out)
  replace H5 := Lib.hid (Ints.alloc (.cells #[.int .i64 ua, .int .i64 ub, .int .i64 uc] 45) H5.out)
  replace H6 := Lib.hid (Ints.alloc (.cells #[.int .i64 ua, .int .i64 ub, .int .i64 uc] 45) H6.out)
  replace HB := Lib.hid (Bel.alloc HB.out (.cells #[.int .i64 ua, .int .i64 ub, .int .i64 uc] 45))
  have HV := Lib.hid (by have h := Blk.new (w7.alloc (.cells #[.int .i64 ua, .int .i64 ub, .int .i64 uc] 45)) 45 #[.int .i64 va, .int .i64 vb, .int .i64 vc]; (try simp only [World.size_alloc] at h); exact h)
  replace HP := Lib.hid (Blk.alloc (.cells #[.int .i64 va, .int .i64 vb, .int .i64 vc] 45) HP.out)
  replace HX := Lib.hid (Blk.alloc (.cells #[.int .i64 va, .int .i64 vb, .int .i64 vc] 45) HX.out)
  replace HX2 := Lib.hid (Blk.alloc (.cells #[.int .i64 va, .int .i64 vb, .int .i64 vc] 45) HX2.out)
  replace HU := Lib.hid (Blk.alloc (.cells #[.int .i64 va, .int .i64 vb, .int .i64 vc] 45) HU.out)
  replace HI := Lib.hid (Ints.alloc (.cells #[.int .i64 va, .int .i64 vb, .int .i64 vc] 45) HI.out)
  replace H5 := Lib.hid (Ints.alloc (.cells #[.int .i64 va, .int .i64 vb, .int .i64 vc] 45) H5.out)
  replace H6 := Lib.hid (Ints.alloc (.cells #[.int .i64 va, .int .i64 vb, .int .i64 vc] 45) H6.out)
  replace HB := Lib.hid (Bel.alloc HB.out (.cells #[.int .i64 va, .int .i64 vb, .int .i64 vc] 45))
  have HW := Lib.hid (by have h := Blk.new ((w7.alloc (.cells #[.int .i64 ua, .int .i64 ub, .int .i64 uc] 45)).alloc (.cells #[.int .i64 va, .int .i64 vb, .int .i64 vc] 45)) 45 #[.int .i64 ta, .int .i64 tb, .int .i64 tc]; (try simp only [World.size_alloc] at h); exact h)
  replace HP := Lib.hid (Blk.alloc (.cells #[.int .i64 ta, .int .i64 tb, .int .i64 tc] 45) HP.out)
  replace HX := Lib.hid (Blk.alloc (.cells #[.int .i64 ta, .int .i64 tb, .int .i64 tc] 45) HX.out)
  replace HX2 := Lib.hid (Blk.alloc (.cells #[.int .i64 ta, .int .i64 tb, .int .i64 tc] 45) HX2.out)
  replace HU := Lib.hid (Blk.alloc (.cells #[.int .i64 ta, .int .i64 tb, .int .i64 tc] 45) HU.out)
  replace HV := Lib.hid (Blk.alloc (.cells #[.int .i64 ta, .int .i64 tb, .int .i64 tc] 45) HV.out)
  replace HI := Lib.hid (Ints.alloc (.cells #[.int .i64 ta, .int .i64 tb, .int .i64 tc] 45) HI.out)
  replace H5 := Lib.hid (Ints.alloc (.cells #[.int .i64 ta, .int .i64 tb, .int .i64 tc] 45) H5.out)
  replace H6 := Lib.hid (Ints.alloc (.cells #[.int .i64 ta, .int .i64 tb, .int .i64 tc] 45) H6.out)
  replace HB := Lib.hid (Bel.alloc HB.out (.cells #[.int .i64 ta, .int .i64 tb, .int .i64 tc] 45))
  go_wp2_with (first | (refine wpList_load_blkG 45 _ _ (Blk.step (Bel.ka0 HB.out (by repeat (with_reducible first | exact Below.refl _ _ | refine Bel.alloc ?_ _ | refine Below.drew ?_ | refine Bel.drewN ?_ _))) HU.out) Try.underlying45 (by kernel_rfl) rfl rfl (by rfl) ?_) | (refine wpList_load_blkG 45 _ _ (Blk.step (Bel.ka0 HB.out (by repeat (with_reducible first | exact Below.refl _ _ | refine Bel.alloc ?_ _ | refine Below.drew ?_ | refine Bel.drewN ?_ _))) HV.out) Try.underlying45 (by kernel_rfl) rfl rfl (by rfl) ?_) | (refine wpList_load_blkG 45 _ _ (Blk.step (Bel.ka0 HB.out (by repeat (with_reducible first | exact Below.refl _ _ | refine Bel.alloc ?_ _ | refine Below.drew ?_ | refine Bel.drewN ?_ _))) HW.out) Try.underlying45 (by kernel_rfl) rfl rfl (by rfl) ?_))
  go_at_call 30; refine (RationalsInLine_I _ _ _ _ _ _ _ _ _ _).mono ?_; rintro e w8 ⟨rfl, hb8⟩; have hka := Bel.ka HB.out hb8 (by repeat (with_reducible first | exact Below.refl _ _ | refine Bel.alloc ?_ _ | refine Below.drew ?_ | refine Bel.drewN ?_ _)); (try (replace HP := Lib.hid (Blk.step hb8 (Blk.step hka HP.out)))); (try (replace HX := Lib.hid (Blk.step hb8 (Blk.step hka HX.out)))); (try (replace HX2 := Lib.hid (Blk.step hb8 (Blk.step hka HX2.out)))); (try (replace HU := Lib.hid (Blk.step hb8 (Blk.step hka HU.out)))); (try (replace HV := Lib.hid (Blk.step hb8 (Blk.step hka HV.out)))); (try (replace HW := Lib.hid (Blk.step hb8 (Blk.step hka HW.out)))); (try (replace HI := Lib.hid (Ints.step hb8 (Ints.step hka HI.out)))); (try (replace H5 := Lib.hid (Ints.step hb8 (Ints.step hka H5.out)))); (try (replace H6 := Lib.hid (Ints.step hb8 (Ints.step hka H6.out)))); replace HB := Lib.hid (Bel.step hb8 (Bel.step hka HB.out)); have hsz8 := hb8.size; have hsy8 := hka.size; (try simp only [World.size_alloc, World.size_drew, World.heap_drewN, World.size_setCell] at hsz8 hsy8); clear hka hb8
  obtain ⟨kl, hkl⟩ : ∃ k, k = rilC ua ub uc va vb vc ta tb tc := ⟨_, rfl⟩
  obtain ⟨bl, hbl⟩ : ∃ k, k = rilV ua ub uc va vb vc ta tb tc := ⟨_, rfl⟩
  rw [← hkl, ← hbl]
  have HL := Lib.hid (And.intro hkl hbl)
  clear hkl hbl
  go_wp2_with (first | (refine wpList_load_blkG 45 _ _ (Blk.step (Bel.ka0 HB.out (by repeat (with_reducible first | exact Below.refl _ _ | refine Bel.alloc ?_ _ | refine Below.drew ?_ | refine Bel.drewN ?_ _))) HU.out) Try.underlying45 (by kernel_rfl) rfl rfl (by rfl) ?_) | (refine wpList_load_blkG 45 _ _ (Blk.step (Bel.ka0 HB.out (by repeat (with_reducible first | exact Below.refl _ _ | refine Bel.alloc ?_ _ | refine Below.drew ?_ | refine Bel.drewN ?_ _))) HV.out) Try.underlying45 (by kernel_rfl) rfl rfl (by rfl) ?_) | (refine wpList_load_blkG 45 _ _ (Blk.step (Bel.ka0 HB.out (by repeat (with_reducible first | exact Below.refl _ _ | refine Bel.alloc ?_ _ | refine Below.drew ?_ | refine Bel.drewN ?_ _))) HW.out) Try.underlying45 (by kernel_rfl) rfl rfl (by rfl) ?_))
  go_at_call 31; refine (RationalsInLine_S _ _ _ _ _ _ _ _ _ _).mono ?_; rintro e w9 ⟨rfl, hb9⟩; have hka := Bel.ka HB.out hb9 (by repeat (with_reducible first | exact Below.refl _ _ | refine Bel.alloc ?_ _ | refine Below.drew ?_ | refine Bel.drewN ?_ _)); (try (replace HP := Lib.hid (Blk.step hb9 (Blk.step hka HP.out)))); (try (replace HX := Lib.hid (Blk.step hb9 (Blk.step hka HX.out)))); (try (replace HX2 := Lib.hid (Blk.step hb9 (Blk.step hka HX2.out)))); (try (replace HU := Lib.hid (Blk.step hb9 (Blk.step hka HU.out)))); (try (replace HV := Lib.hid (Blk.step hb9 (Blk.step hka HV.out)))); (try (replace HW := Lib.hid (Blk.step hb9 (Blk.step hka HW.out)))); (try (replace HI := Lib.hid (Ints.step hb9 (Ints.step hka HI.out)))); (try (replace H5 := Lib.hid (Ints.step hb9 (Ints.step hka H5.out)))); (try (replace H6 := Lib.hid (Ints.step hb9 (Ints.step hka H6.out)))); replace HB := Lib.hid (Bel.step hb9 (Bel.step hka HB.out)); have hsz9 := hb9.size; have hsy9 := hka.size; (try simp only [World.size_alloc, World.size_drew, World.heap_drewN, World.size_setCell] at hsz9 hsy9); clear hka hb9
  rw [← HL.out.1, ← HL.out.2]
  go_wp2_with (first | (refine wpList_load_blkG 45 _ _ (Blk.step (Bel.ka0 HB.out (by repeat (with_reducible first | exact Below.refl _ _ | refine Bel.alloc ?_ _ | refine Below.drew ?_ | refine Bel.drewN ?_ _))) HX.out) Try.underlying45 (by kernel_rfl) rfl rfl (by rfl) ?_) | (refine wpList_load_blkG 45 _ _ (Blk.step (Bel.ka0 HB.out (by repeat (with_reducible first | exact Below.refl _ _ | refine Bel.alloc ?_ _ | refine Below.drew ?_ | refine Bel.drewN ?_ _))) HX2.out) Try.underlying45 (by kernel_rfl) rfl rfl (by rfl) ?_))
  go_at_call 32; refine (likeInts_c A5 A6 c5 c6 ni (by omega) _ (by repeat (with_reducible first | exact H5.out | assumption | refine Ints.drew ?_ | refine Ints.drewN _ ?_ | refine Ints.alloc _ ?_ | refine Ints.step (by assumption) ?_)) (by repeat (with_reducible first | exact H6.out | assumption | refine Ints.drew ?_ | refine Ints.drewN _ ?_ | refine Ints.alloc _ ?_ | refine Ints.step (by assumption) ?_))).mono ?_; rintro e w10 ⟨rfl, hb10⟩; have hka := Bel.ka HB.out hb10 (by repeat (with_reducible first | exact Below.refl _ _ | refine Bel.alloc ?_ _ | refine Below.drew ?_ | refine Bel.drewN ?_ _)); (try (replace HP := Lib.hid (Blk.step hb10 (Blk.step hka HP.out)))); (try (replace HX := Lib.hid (Blk.step hb10 (Blk.step hka HX.out)))); (try (replace HU := Lib.hid (Blk.step hb10 (Blk.step hka HU.out)))); (try (replace HV := Lib.hid (Blk.step hb10 (Blk.step hka HV.out)))); (try (replace HW := Lib.hid (Blk.step hb10 (Blk.step hka HW.out)))); (try (replace HI := Lib.hid (Ints.step hb10 (Ints.step hka HI.out)))); replace HB := Lib.hid (Bel.step hb10 (Bel.step hka HB.out)); have hsz10 := hb10.size; have hsy10 := hka.size; (try simp only [World.size_alloc, World.size_drew, World.heap_drewN, World.size_setCell] at hsz10 hsy10); clear hka hb10
  clear H5 H6 HX2 HJ
  go_wp2_with fail
  go_at_call 33; refine (IsProjection_I (some ⟨g, 0, none⟩) q m hm' _ (by repeat (with_reducible first | exact HI.out | assumption | refine Ints.drew ?_ | refine Ints.drewN _ ?_ | refine Ints.alloc _ ?_ | refine Ints.step (by assumption) ?_))).mono ?_; rintro e w11 ⟨rfl, hb11⟩; have hka := Bel.ka HB.out hb11 (by repeat (with_reducible first | exact Below.refl _ _ | refine Bel.alloc ?_ _ | refine Below.drew ?_ | refine Bel.drewN ?_ _)); (try (replace HP := Lib.hid (Blk.step hb11 (Blk.step hka HP.out)))); (try (replace HX := Lib.hid (Blk.step hb11 (Blk.step hka HX.out)))); (try (replace HU := Lib.hid (Blk.step hb11 (Blk.step hka HU.out)))); (try (replace HV := Lib.hid (Blk.step hb11 (Blk.step hka HV.out)))); (try (replace HW := Lib.hid (Blk.step hb11 (Blk.step hka HW.out)))); (try (replace HI := Lib.hid (Ints.step hb11 (Ints.step hka HI.out)))); replace HB := Lib.hid (Bel.step hb11 (Bel.step hka HB.out)); have hsz11 := hb11.size; have hsy11 := hka.size; (try simp only [World.size_alloc, World.size_drew, World.heap_drewN, World.size_setCell] at hsz11 hsy11); clear hka hb11
  obtain ⟨pr, hpr⟩ : ∃ k, k = isPr m := ⟨_, rfl⟩
  rw [← hpr]
  have HPr := Lib.hid hpr
  clear hpr
  go_wp2_with fail
  go_at_call 34; refine (IsProjection_S (some ⟨g, 0, none⟩) q m hm' _ (by repeat (with_reducible first | exact HI.out | assumption | refine Ints.drew ?_ | refine Ints.drewN _ ?_ | refine Ints.alloc _ ?_ | refine Ints.step (by assumption) ?_))).mono ?_; rintro e w12 ⟨rfl, hb12⟩; have hka := Bel.ka HB.out hb12 (by repeat (with_reducible first | exact Below.refl _ _ | refine Bel.alloc ?_ _ | refine Below.drew ?_ | refine Bel.drewN ?_ _)); (try (replace HP := Lib.hid (Blk.step hb12 (Blk.step hka HP.out)))); (try (replace HX := Lib.hid (Blk.step hb12 (Blk.step hka HX.out)))); (try (replace HU := Lib.hid (Blk.step hb12 (Blk.step hka HU.out)))); (try (replace HV := Lib.hid (Blk.step hb12 (Blk.step hka HV.out)))); (try (replace HW := Lib.hid (Blk.step hb12 (Blk.step hka HW.out)))); (try (replace HI := Lib.hid (Ints.step hb12 (Ints.step hka HI.out)))); replace HB := Lib.hid (Bel.step hb12 (Bel.step hka HB.out)); have hsz12 := hb12.size; have hsy12 := hka.size; (try simp only [World.size_alloc, World.size_drew, World.heap_drewN, World.size_setCell] at hsz12 hsy12); clear hka hb12
  rw [← HPr.out]
  by_cases hk0 : k = 0
  rotate_left
  · have hkb : (k == 0) = false := by simpa using hk0
    obtain ⟨W, rfl⟩ : ∃ W : World, W = w12 := ⟨_, rfl⟩
    by_cases hl0 : kl = 0
    rotate_left
    · go_wp2
      go_ret
      exact ⟨rfl, HB.out⟩
    have HL0 := Lib.hid hl0
    subst hl0
    go_wp2_with (first | (refine wpList_load_blkG 45 _ _ (Blk.step (Bel.ka0 HB.out (by repeat (with_reducible first | exact Below.refl _ _ | refine Bel.alloc ?_ _ | refine Below.drew ?_ | refine Bel.drewN ?_ _))) HU.out) Try.underlying45 (by kernel_rfl) rfl rfl (by rfl) ?_))
    go_at_call 24; refine (ProjectPoint_I (some ⟨g, 0, none⟩) q m hm' ua ub uc _ (by repeat (with_reducible first | exact HI.out | assumption | refine Ints.drew ?_ | refine Ints.drewN _ ?_ | refine Ints.alloc _ ?_ | refine Ints.step (by assumption) ?_))).mono ?_; rintro e w21 ⟨rfl, hb21⟩; have hka := Bel.ka HB.out hb21 (by repeat (with_reducible first | exact Below.refl _ _ | refine Bel.alloc ?_ _ | refine Below.drew ?_ | refine Bel.drewN ?_ _)); (try (replace HU := Lib.hid (Blk.step hb21 (Blk.step hka HU.out)))); (try (replace HV := Lib.hid (Blk.step hb21 (Blk.step hka HV.out)))); (try (replace HW := Lib.hid (Blk.step hb21 (Blk.step hka HW.out)))); (try (replace HI := Lib.hid (Ints.step hb21 (Ints.step hka HI.out)))); replace HB := Lib.hid (Bel.step hb21 (Bel.step hka HB.out)); have hsz21 := hb21.size; have hsy21 := hka.size; (try simp only [World.size_alloc, World.size_drew, World.heap_drewN, World.size_setCell] at hsz21 hsy21); clear hka hb21
    obtain ⟨ra, ha⟩ : ∃ k, k = prjC m ua ub uc := ⟨_, rfl⟩
    obtain ⟨rb, hb⟩ : ∃ k, k = prjV m ua ub uc 0 := ⟨_, rfl⟩
    obtain ⟨rc, hc⟩ : ∃ k, k = prjV m ua ub uc 1 := ⟨_, rfl⟩
    obtain ⟨rd, hd⟩ : ∃ k, k = prjV m ua ub uc 2 := ⟨_, rfl⟩
    rw [← ha, ← hb, ← hc, ← hd]
    have HR := Lib.hid (And.intro ha (And.intro hb (And.intro hc hd)))
    clear ha hb hc hd
    have HRB := Lib.hid (by have h := Blk.new w21 45 #[.int .i64 rb, .int .i64 rc, .int .i64 rd]; (try simp only [World.size_alloc] at h); exact h)
    replace HU := Lib.hid (Blk.alloc (.cells #[.int .i64 rb, .int .i64 rc, .int .i64 rd] 45) HU.out)
    replace HV := Lib.hid (Blk.alloc (.cells #[.int .i64 rb, .int .i64 rc, .int .i64 rd] 45) HV.out)
    replace HW := Lib.hid (Blk.alloc (.cells #[.int .i64 rb, .int .i64 rc, .int .i64 rd] 45) HW.out)
    replace HI := Lib.hid (Ints.alloc (.cells #[.int .i64 rb, .int .i64 rc, .int .i64 rd] 45) HI.out)
    replace HB := Lib.hid (Bel.alloc HB.out (.cells #[.int .i64 rb, .int .i64 rc, .int .i64 rd] 45))
    go_wp2_with (first | (refine wpList_load_blkG 45 _ _ (Blk.step (Bel.ka0 HB.out (by repeat (with_reducible first | exact Below.refl _ _ | refine Bel.alloc ?_ _ | refine Below.drew ?_ | refine Bel.drewN ?_ _))) HV.out) Try.underlying45 (by kernel_rfl) rfl rfl (by rfl) ?_))
    go_at_call 24; refine (ProjectPoint_I (some ⟨g, 0, none⟩) q m hm' va vb vc _ (by repeat (with_reducible first | exact HI.out | assumption | refine Ints.drew ?_ | refine Ints.drewN _ ?_ | refine Ints.alloc _ ?_ | refine Ints.step (by assumption) ?_))).mono ?_; rintro e w22 ⟨rfl, hb22⟩; have hka := Bel.ka HB.out hb22 (by repeat (with_reducible first | exact Below.refl _ _ | refine Bel.alloc ?_ _ | refine Below.drew ?_ | refine Bel.drewN ?_ _)); (try (replace HU := Lib.hid (Blk.step hb22 (Blk.step hka HU.out)))); (try (replace HV := Lib.hid (Blk.step hb22 (Blk.step hka HV.out)))); (try (replace HW := Lib.hid (Blk.step hb22 (Blk.step hka HW.out)))); (try (replace HI := Lib.hid (Ints.step hb22 (Ints.step hka HI.out)))); (try (replace HRB := Lib.hid (Blk.step hb22 (Blk.step hka HRB.out)))); replace HB := Lib.hid (Bel.step hb22 (Bel.step hka HB.out)); have hsz22 := hb22.size; have hsy22 := hka.size; (try simp only [World.size_alloc, World.size_drew, World.heap_drewN, World.size_setCell] at hsz22 hsy22); clear hka hb22
    obtain ⟨sa, ha⟩ : ∃ k, k = prjC m va vb vc := ⟨_, rfl⟩
    obtain ⟨sb, hb⟩ : ∃ k, k = prjV m va vb vc 0 := ⟨_, rfl⟩
    obtain ⟨sc, hc⟩ : ∃ k, k = prjV m va vb vc 1 := ⟨_, rfl⟩
    obtain ⟨sd, hd⟩ : ∃ k, k = prjV m va vb vc 2 := ⟨_, rfl⟩
    rw [← ha, ← hb, ← hc, ← hd]
    have HS := Lib.hid (And.intro ha (And.intro hb (And.intro hc hd)))
    clear ha hb hc hd
    have HSB := Lib.hid (by have h := Blk.new w22 45 #[.int .i64 sb, .int .i64 sc, .int .i64 sd]; (try simp only [World.size_alloc] at h); exact h)
    replace HU := Lib.hid (Blk.alloc (.cells #[.int .i64 sb, .int .i64 sc, .int .i64 sd] 45) HU.out)
    replace HV := Lib.hid (Blk.alloc (.cells #[.int .i64 sb, .int .i64 sc, .int .i64 sd] 45) HV.out)
    replace HW := Lib.hid (Blk.alloc (.cells #[.int .i64 sb, .int .i64 sc, .int .i64 sd] 45) HW.out)
    replace HI := Lib.hid (Ints.alloc (.cells #[.int .i64 sb, .int .i64 sc, .int .i64 sd] 45) HI.out)
    replace HRB := Lib.hid (Blk.alloc (.cells #[.int .i64 sb, .int .i64 sc, .int .i64 sd] 45) HRB.out)
    replace HB := Lib.hid (Bel.alloc HB.out (.cells #[.int .i64 sb, .int .i64 sc, .int .i64 sd] 45))
    go_wp2_with (first | (refine wpList_load_blkG 45 _ _ (Blk.step (Bel.ka0 HB.out (by repeat (with_reducible first | exact Below.refl _ _ | refine Bel.alloc ?_ _ | refine Below.drew ?_ | refine Bel.drewN ?_ _))) HW.out) Try.underlying45 (by kernel_rfl) rfl rfl (by rfl) ?_))
    go_at_call 24; refine (ProjectPoint_I (some ⟨g, 0, none⟩) q m hm' ta tb tc _ (by repeat (with_reducible first | exact HI.out | assumption | refine Ints.drew ?_ | refine Ints.drewN _ ?_ | refine Ints.alloc _ ?_ | refine Ints.step (by assumption) ?_))).mono ?_; rintro e w23 ⟨rfl, hb23⟩; have hka := Bel.ka HB.out hb23 (by repeat (with_reducible first | exact Below.refl _ _ | refine Bel.alloc ?_ _ | refine Below.drew ?_ | refine Bel.drewN ?_ _)); (try (replace HU := Lib.hid (Blk.step hb23 (Blk.step hka HU.out)))); (try (replace HV := Lib.hid (Blk.step hb23 (Blk.step hka HV.out)))); (try (replace HW := Lib.hid (Blk.step hb23 (Blk.step hka HW.out)))); (try (replace HI := Lib.hid (Ints.step hb23 (Ints.step hka HI.out)))); (try (replace HRB := Lib.hid (Blk.step hb23 (Blk.step hka HRB.out)))); (try (replace HSB := Lib.hid (Blk.step hb23 (Blk.step hka HSB.out)))); replace HB := Lib.hid (Bel.step hb23 (Bel.step hka HB.out)); have hsz23 := hb23.size; have hsy23 := hka.size; (try simp only [World.size_alloc, World.size_drew, World.heap_drewN, World.size_setCell] at hsz23 hsy23); clear hka hb23
    obtain ⟨za, ha⟩ : ∃ k, k = prjC m ta tb tc := ⟨_, rfl⟩
    obtain ⟨zb, hb⟩ : ∃ k, k = prjV m ta tb tc 0 := ⟨_, rfl⟩
    obtain ⟨zc, hc⟩ : ∃ k, k = prjV m ta tb tc 1 := ⟨_, rfl⟩
    obtain ⟨zd, hd⟩ : ∃ k, k = prjV m ta tb tc 2 := ⟨_, rfl⟩
    rw [← ha, ← hb, ← hc, ← hd]
    have HZ := Lib.hid (And.intro ha (And.intro hb (And.intro hc hd)))
    clear ha hb hc hd
    have HZB := Lib.hid (by have h := Blk.new w23 45 #[.int .i64 zb, .int .i64 zc, .int .i64 zd]; (try simp only [World.size_alloc] at h); exact h)
    replace HU := Lib.hid (Blk.alloc (.cells #[.int .i64 zb, .int .i64 zc, .int .i64 zd] 45) HU.out)
    replace HV := Lib.hid (Blk.alloc (.cells #[.int .i64 zb, .int .i64 zc, .int .i64 zd] 45) HV.out)
    replace HW := Lib.hid (Blk.alloc (.cells #[.int .i64 zb, .int .i64 zc, .int .i64 zd] 45) HW.out)
    replace HI := Lib.hid (Ints.alloc (.cells #[.int .i64 zb, .int .i64 zc, .int .i64 zd] 45) HI.out)
    replace HRB := Lib.hid (Blk.alloc (.cells #[.int .i64 zb, .int .i64 zc, .int .i64 zd] 45) HRB.out)
    replace HSB := Lib.hid (Blk.alloc (.cells #[.int .i64 zb, .int .i64 zc, .int .i64 zd] 45) HSB.out)
    replace HB := Lib.hid (Bel.alloc HB.out (.cells #[.int .i64 zb, .int .i64 zc, .int .i64 zd] 45))
    by_cases hr0 : ra = 0
    rotate_left
    · go_wp2
      go_ret
      exact ⟨rfl, HB.out⟩
    have HR0 := Lib.hid hr0
    by_cases hs0 : sa = 0
    rotate_left
    · go_wp2
      go_ret
      exact ⟨rfl, HB.out⟩
    have HS0 := Lib.hid hs0
    by_cases hz0 : za = 0
    rotate_left
    · go_wp2
      go_ret
      exact ⟨rfl, HB.out⟩
    have HZ0 := Lib.hid hz0
    subst hr0 hs0 hz0
    go_wp2_with (first | (refine wpList_load_blkG 45 _ _ (Blk.step (Bel.ka0 HB.out (by repeat (with_reducible first | exact Below.refl _ _ | refine Bel.alloc ?_ _ | refine Below.drew ?_ | refine Bel.drewN ?_ _))) HRB.out) Try.underlying45 (by kernel_rfl) rfl rfl (by rfl) ?_) | (refine wpList_load_blkG 45 _ _ (Blk.step (Bel.ka0 HB.out (by repeat (with_reducible first | exact Below.refl _ _ | refine Bel.alloc ?_ _ | refine Below.drew ?_ | refine Bel.drewN ?_ _))) HSB.out) Try.underlying45 (by kernel_rfl) rfl rfl (by rfl) ?_) | (refine wpList_load_blkG 45 _ _ (Blk.step (Bel.ka0 HB.out (by repeat (with_reducible first | exact Below.refl _ _ | refine Bel.alloc ?_ _ | refine Below.drew ?_ | refine Bel.drewN ?_ _))) HZB.out) Try.underlying45 (by kernel_rfl) rfl rfl (by rfl) ?_))
    go_at_call 30; refine (RationalsInLine_I _ _ _ _ _ _ _ _ _ _).mono ?_; rintro e w24 ⟨rfl, hb24⟩; have hka := Bel.ka HB.out hb24 (by repeat (with_reducible first | exact Below.refl _ _ | refine Bel.alloc ?_ _ | refine Below.drew ?_ | refine Bel.drewN ?_ _)); (try (replace HRB := Lib.hid (Blk.step hb24 (Blk.step hka HRB.out)))); replace HB := Lib.hid (Bel.step hb24 (Bel.step hka HB.out)); have hsz24 := hb24.size; have hsy24 := hka.size; (try simp only [World.size_alloc, World.size_drew, World.heap_drewN, World.size_setCell] at hsz24 hsy24); clear hka hb24
    obtain ⟨ke, hke⟩ : ∃ k, k = rilC rb rc rd sb sc sd zb zc zd := ⟨_, rfl⟩
    obtain ⟨be, hbe⟩ : ∃ k, k = rilV rb rc rd sb sc sd zb zc zd := ⟨_, rfl⟩
    rw [← hke, ← hbe]
    have hfin : ke = 3 ∨ ke = 0 ∧ be = bl := by
      have e := line_code (m := m) (k := ke) (v := be) (HL.out.1.symm) (HR.out.1.symm) (HS.out.1.symm) (HZ.out.1.symm) (by rw [hke, HR.out.2.1, HR.out.2.2.1, HR.out.2.2.2, HS.out.2.1, HS.out.2.2.1, HS.out.2.2.2, HZ.out.2.1, HZ.out.2.2.1, HZ.out.2.2.2]) (by rw [hbe, HR.out.2.1, HR.out.2.2.1, HR.out.2.2.2, HS.out.2.1, HS.out.2.2.1, HS.out.2.2.2, HZ.out.2.1, HZ.out.2.2.1, HZ.out.2.2.2])
      rw [← HL.out.2] at e
      exact e
    clear hke hbe
    rcases hfin with rfl | ⟨rfl, rfl⟩
    · go_wp2
      go_ret
      exact ⟨rfl, HB.out⟩
    · go_wp2
      go_ret
      exact ⟨rfl, HB.out⟩
  have hcode : prjC m x y z = 0 := by rw [← HK.out]; exact hk0
  subst hk0
  go_wp2_with fail
  go_at_call 27; refine (InverseProjection_I (some ⟨g, 0, none⟩) q m hm' _ (by repeat (with_reducible first | exact HI.out | assumption | refine Ints.drew ?_ | refine Ints.drewN _ ?_ | refine Ints.alloc _ ?_ | refine Ints.step (by assumption) ?_))).mono ?_; rintro e w13 ⟨v13, rfl, hO13, hb13⟩; have hka := Bel.ka HB.out hb13 (by repeat (with_reducible first | exact Below.refl _ _ | refine Bel.alloc ?_ _ | refine Below.drew ?_ | refine Bel.drewN ?_ _)); (try (replace HP := Lib.hid (Blk.step hb13 (Blk.step hka HP.out)))); (try (replace HX := Lib.hid (Blk.step hb13 (Blk.step hka HX.out)))); (try (replace HU := Lib.hid (Blk.step hb13 (Blk.step hka HU.out)))); (try (replace HV := Lib.hid (Blk.step hb13 (Blk.step hka HV.out)))); (try (replace HW := Lib.hid (Blk.step hb13 (Blk.step hka HW.out)))); (try (replace HI := Lib.hid (Ints.step hb13 (Ints.step hka HI.out)))); replace HB := Lib.hid (Bel.step hb13 (Bel.step hka HB.out)); have hsz13 := hb13.size; have hsy13 := hka.size; (try simp only [World.size_alloc, World.size_drew, World.heap_drewN, World.size_setCell] at hsz13 hsy13); clear hka hb13
  obtain ⟨A13, c13, rfl, _, _, hI13, _⟩ := hO13.form
  have H13 := Lib.hid hI13
  clear hI13 hO13
  have hr9 := invR_len m
  have hback := fun hi => inv_back hcode hi
  rw [← HQ.out.1, ← HQ.out.2.1, ← HQ.out.2.2] at hback
  have HBK := Lib.hid hback
  clear hback hcode
  generalize invR m = mi at *
  generalize invC m = ki at *
  by_cases hi0 : ki = 0
  rotate_left
  · have hkb : (ki == 0) = false := by simpa using hi0
    obtain ⟨W, rfl⟩ : ∃ W : World, W = w13 := ⟨_, rfl⟩
    by_cases hl0 : kl = 0
    rotate_left
    · go_wp2
      go_ret
      exact ⟨rfl, HB.out⟩
    have HL0 := Lib.hid hl0
    subst hl0
    go_wp2_with (first | (refine wpList_load_blkG 45 _ _ (Blk.step (Bel.ka0 HB.out (by repeat (with_reducible first | exact Below.refl _ _ | refine Bel.alloc ?_ _ | refine Below.drew ?_ | refine Bel.drewN ?_ _))) HU.out) Try.underlying45 (by kernel_rfl) rfl rfl (by rfl) ?_))
    go_at_call 24; refine (ProjectPoint_I (some ⟨g, 0, none⟩) q m hm' ua ub uc _ (by repeat (with_reducible first | exact HI.out | assumption | refine Ints.drew ?_ | refine Ints.drewN _ ?_ | refine Ints.alloc _ ?_ | refine Ints.step (by assumption) ?_))).mono ?_; rintro e w21 ⟨rfl, hb21⟩; have hka := Bel.ka HB.out hb21 (by repeat (with_reducible first | exact Below.refl _ _ | refine Bel.alloc ?_ _ | refine Below.drew ?_ | refine Bel.drewN ?_ _)); (try (replace HU := Lib.hid (Blk.step hb21 (Blk.step hka HU.out)))); (try (replace HV := Lib.hid (Blk.step hb21 (Blk.step hka HV.out)))); (try (replace HW := Lib.hid (Blk.step hb21 (Blk.step hka HW.out)))); (try (replace HI := Lib.hid (Ints.step hb21 (Ints.step hka HI.out)))); replace HB := Lib.hid (Bel.step hb21 (Bel.step hka HB.out)); have hsz21 := hb21.size; have hsy21 := hka.size; (try simp only [World.size_alloc, World.size_drew, World.heap_drewN, World.size_setCell] at hsz21 hsy21); clear hka hb21
    obtain ⟨ra, ha⟩ : ∃ k, k = prjC m ua ub uc := ⟨_, rfl⟩
    obtain ⟨rb, hb⟩ : ∃ k, k = prjV m ua ub uc 0 := ⟨_, rfl⟩
    obtain ⟨rc, hc⟩ : ∃ k, k = prjV m ua ub uc 1 := ⟨_, rfl⟩
    obtain ⟨rd, hd⟩ : ∃ k, k = prjV m ua ub uc 2 := ⟨_, rfl⟩
    rw [← ha, ← hb, ← hc, ← hd]
    have HR := Lib.hid (And.intro ha (And.intro hb (And.intro hc hd)))
    clear ha hb hc hd
    have HRB := Lib.hid (by have h := Blk.new w21 45 #[.int .i64 rb, .int .i64 rc, .int .i64 rd]; (try simp only [World.size_alloc] at h); exact h)
    replace HU := Lib.hid (Blk.alloc (.cells #[.int .i64 rb, .int .i64 rc, .int .i64 rd] 45) HU.out)
    replace HV := Lib.hid (Blk.alloc (.cells #[.int .i64 rb, .int .i64 rc, .int .i64 rd] 45) HV.out)
    replace HW := Lib.hid (Blk.alloc (.cells #[.int .i64 rb, .int .i64 rc, .int .i64 rd] 45) HW.out)
    replace HI := Lib.hid (Ints.alloc (.cells #[.int .i64 rb, .int .i64 rc, .int .i64 rd] 45) HI.out)
    replace HB := Lib.hid (Bel.alloc HB.out (.cells #[.int .i64 rb, .int .i64 rc, .int .i64 rd] 45))
    go_wp2_with (first | (refine wpList_load_blkG 45 _ _ (Blk.step (Bel.ka0 HB.out (by repeat (with_reducible first | exact Below.refl _ _ | refine Bel.alloc ?_ _ | refine Below.drew ?_ | refine Bel.drewN ?_ _))) HV.out) Try.underlying45 (by kernel_rfl) rfl rfl (by rfl) ?_))
    go_at_call 24; refine (ProjectPoint_I (some ⟨g, 0, none⟩) q m hm' va vb vc _ (by repeat (with_reducible first | exact HI.out | assumption | refine Ints.drew ?_ | refine Ints.drewN _ ?_ | refine Ints.alloc _ ?_ | refine Ints.step (by assumption) ?_))).mono ?_; rintro e w22 ⟨rfl, hb22⟩; have hka := Bel.ka HB.out hb22 (by repeat (with_reducible first | exact Below.refl _ _ | refine Bel.alloc ?_ _ | refine Below.drew ?_ | refine Bel.drewN ?_ _)); (try (replace HU := Lib.hid (Blk.step hb22 (Blk.step hka HU.out)))); (try (replace HV := Lib.hid (Blk.step hb22 (Blk.step hka HV.out)))); (try (replace HW := Lib.hid (Blk.step hb22 (Blk.step hka HW.out)))); (try (replace HI := Lib.hid (Ints.step hb22 (Ints.step hka HI.out)))); (try (replace HRB := Lib.hid (Blk.step hb22 (Blk.step hka HRB.out)))); replace HB := Lib.hid (Bel.step hb22 (Bel.step hka HB.out)); have hsz22 := hb22.size; have hsy22 := hka.size; (try simp only [World.size_alloc, World.size_drew, World.heap_drewN, World.size_setCell] at hsz22 hsy22); clear hka hb22
    obtain ⟨sa, ha⟩ : ∃ k, k = prjC m va vb vc := ⟨_, rfl⟩
    obtain ⟨sb, hb⟩ : ∃ k, k = prjV m va vb vc 0 := ⟨_, rfl⟩
    obtain ⟨sc, hc⟩ : ∃ k, k = prjV m va vb vc 1 := ⟨_, rfl⟩
    obtain ⟨sd, hd⟩ : ∃ k, k = prjV m va vb vc 2 := ⟨_, rfl⟩
    rw [← ha, ← hb, ← hc, ← hd]
    have HS := Lib.hid (And.intro ha (And.intro hb (And.intro hc hd)))
    clear ha hb hc hd
    have HSB := Lib.hid (by have h := Blk.new w22 45 #[.int .i64 sb, .int .i64 sc, .int .i64 sd]; (try simp only [World.size_alloc] at h); exact h)
    replace HU := Lib.hid (Blk.alloc (.cells #[.int .i64 sb, .int .i64 sc, .int .i64 sd] 45) HU.out)
    replace HV := Lib.hid (Blk.alloc (.cells #[.int .i64 sb, .int .i64 sc, .int .i64 sd] 45) HV.out)
    replace HW := Lib.hid (Blk.alloc (.cells #[.int .i64 sb, .int .i64 sc, .int .i64 sd] 45) HW.out)
    replace HI := Lib.hid (Ints.alloc (.cells #[.int .i64 sb, .int .i64 sc, .int .i64 sd] 45) HI.out)
    replace HRB := Lib.hid (Blk.alloc (.cells #[.int .i64 sb, .int .i64 sc, .int .i64 sd] 45) HRB.out)
    replace HB := Lib.hid (Bel.alloc HB.out (.cells #[.int .i64 sb, .int .i64 sc, .int .i64 sd] 45))
    go_wp2_with (first | (refine wpList_load_blkG 45 _ _ (Blk.step (Bel.ka0 HB.out (by repeat (with_reducible first | exact Below.refl _ _ | refine Bel.alloc ?_ _ | refine Below.drew ?_ | refine Bel.drewN ?_ _))) HW.out) Try.underlying45 (by kernel_rfl) rfl rfl (by rfl) ?_))
    go_at_call 24; refine (ProjectPoint_I (some ⟨g, 0, none⟩) q m hm' ta tb tc _ (by repeat (with_reducible first | exact HI.out | assumption | refine Ints.drew ?_ | refine Ints.drewN _ ?_ | refine Ints.alloc _ ?_ | refine Ints.step (by assumption) ?_))).mono ?_; rintro e w23 ⟨rfl, hb23⟩; have hka := Bel.ka HB.out hb23 (by repeat (with_reducible first | exact Below.refl _ _ | refine Bel.alloc ?_ _ | refine Below.drew ?_ | refine Bel.drewN ?_ _)); (try (replace HU := Lib.hid (Blk.step hb23 (Blk.step hka HU.out)))); (try (replace HV := Lib.hid (Blk.step hb23 (Blk.step hka HV.out)))); (try (replace HW := Lib.hid (Blk.step hb23 (Blk.step hka HW.out)))); (try (replace HI := Lib.hid (Ints.step hb23 (Ints.step hka HI.out)))); (try (replace HRB := Lib.hid (Blk.step hb23 (Blk.step hka HRB.out)))); (try (replace HSB := Lib.hid (Blk.step hb23 (Blk.step hka HSB.out)))); replace HB := Lib.hid (Bel.step hb23 (Bel.step hka HB.out)); have hsz23 := hb23.size; have hsy23 := hka.size; (try simp only [World.size_alloc, World.size_drew, World.heap_drewN, World.size_setCell] at hsz23 hsy23); clear hka hb23
    obtain ⟨za, ha⟩ : ∃ k, k = prjC m ta tb tc := ⟨_, rfl⟩
    obtain ⟨zb, hb⟩ : ∃ k, k = prjV m ta tb tc 0 := ⟨_, rfl⟩
    obtain ⟨zc, hc⟩ : ∃ k, k = prjV m ta tb tc 1 := ⟨_, rfl⟩
    obtain ⟨zd, hd⟩ : ∃ k, k = prjV m ta tb tc 2 := ⟨_, rfl⟩
    rw [← ha, ← hb, ← hc, ← hd]
    have HZ := Lib.hid (And.intro ha (And.intro hb (And.intro hc hd)))
    clear ha hb hc hd
    have HZB := Lib.hid (by have h := Blk.new w23 45 #[.int .i64 zb, .int .i64 zc, .int .i64 zd]; (try simp only [World.size_alloc] at h); exact h)
    replace HU := Lib.hid (Blk.alloc (.cells #[.int .i64 zb, .int .i64 zc, .int .i64 zd] 45) HU.out)
    replace HV := Lib.hid (Blk.alloc (.cells #[.int .i64 zb, .int .i64 zc, .int .i64 zd] 45) HV.out)
    replace HW := Lib.hid (Blk.alloc (.cells #[.int .i64 zb, .int .i64 zc, .int .i64 zd] 45) HW.out)
    replace HI := Lib.hid (Ints.alloc (.cells #[.int .i64 zb, .int .i64 zc, .int .i64 zd] 45) HI.out)
    replace HRB := Lib.hid (Blk.alloc (.cells #[.int .i64 zb, .int .i64 zc, .int .i64 zd] 45) HRB.out)
    replace HSB := Lib.hid (Blk.alloc (.cells #[.int .i64 zb, .int .i64 zc, .int .i64 zd] 45) HSB.out)
    replace HB := Lib.hid (Bel.alloc HB.out (.cells #[.int .i64 zb, .int .i64 zc, .int .i64 zd] 45))
    by_cases hr0 : ra = 0
    rotate_left
    · go_wp2
      go_ret
      exact ⟨rfl, HB.out⟩
    have HR0 := Lib.hid hr0
    by_cases hs0 : sa = 0
    rotate_left
    · go_wp2
      go_ret
      exact ⟨rfl, HB.out⟩
    have HS0 := Lib.hid hs0
    by_cases hz0 : za = 0
    rotate_left
    · go_wp2
      go_ret
      exact ⟨rfl, HB.out⟩
    have HZ0 := Lib.hid hz0
    subst hr0 hs0 hz0
    go_wp2_with (first | (refine wpList_load_blkG 45 _ _ (Blk.step (Bel.ka0 HB.out (by repeat (with_reducible first | exact Below.refl _ _ | refine Bel.alloc ?_ _ | refine Below.drew ?_ | refine Bel.drewN ?_ _))) HRB.out) Try.underlying45 (by kernel_rfl) rfl rfl (by rfl) ?_) | (refine wpList_load_blkG 45 _ _ (Blk.step (Bel.ka0 HB.out (by repeat (with_reducible first | exact Below.refl _ _ | refine Bel.alloc ?_ _ | refine Below.drew ?_ | refine Bel.drewN ?_ _))) HSB.out) Try.underlying45 (by kernel_rfl) rfl rfl (by rfl) ?_) | (refine wpList_load_blkG 45 _ _ (Blk.step (Bel.ka0 HB.out (by repeat (with_reducible first | exact Below.refl _ _ | refine Bel.alloc ?_ _ | refine Below.drew ?_ | refine Bel.drewN ?_ _))) HZB.out) Try.underlying45 (by kernel_rfl) rfl rfl (by rfl) ?_))
    go_at_call 30; refine (RationalsInLine_I _ _ _ _ _ _ _ _ _ _).mono ?_; rintro e w24 ⟨rfl, hb24⟩; have hka := Bel.ka HB.out hb24 (by repeat (with_reducible first | exact Below.refl _ _ | refine Bel.alloc ?_ _ | refine Below.drew ?_ | refine Bel.drewN ?_ _)); (try (replace HRB := Lib.hid (Blk.step hb24 (Blk.step hka HRB.out)))); replace HB := Lib.hid (Bel.step hb24 (Bel.step hka HB.out)); have hsz24 := hb24.size; have hsy24 := hka.size; (try simp only [World.size_alloc, World.size_drew, World.heap_drewN, World.size_setCell] at hsz24 hsy24); clear hka hb24
    obtain ⟨ke, hke⟩ : ∃ k, k = rilC rb rc rd sb sc sd zb zc zd := ⟨_, rfl⟩
    obtain ⟨be, hbe⟩ : ∃ k, k = rilV rb rc rd sb sc sd zb zc zd := ⟨_, rfl⟩
    rw [← hke, ← hbe]
    have hfin : ke = 3 ∨ ke = 0 ∧ be = bl := by
      have e := line_code (m := m) (k := ke) (v := be) (HL.out.1.symm) (HR.out.1.symm) (HS.out.1.symm) (HZ.out.1.symm) (by rw [hke, HR.out.2.1, HR.out.2.2.1, HR.out.2.2.2, HS.out.2.1, HS.out.2.2.1, HS.out.2.2.2, HZ.out.2.1, HZ.out.2.2.1, HZ.out.2.2.2]) (by rw [hbe, HR.out.2.1, HR.out.2.2.1, HR.out.2.2.2, HS.out.2.1, HS.out.2.2.1, HS.out.2.2.2, HZ.out.2.1, HZ.out.2.2.1, HZ.out.2.2.2])
      rw [← HL.out.2] at e
      exact e
    clear hke hbe
    rcases hfin with rfl | ⟨rfl, rfl⟩
    · go_wp2
      go_ret
      exact ⟨rfl, HB.out⟩
    · go_wp2
      go_ret
      exact ⟨rfl, HB.out⟩
  subst hi0
  obtain ⟨hb5, hb0⟩ := HBK.out rfl
  have HB0 := Lib.hid hb0
  have HB5 := Lib.hid hb5
  clear hb0 hb5 HBK
  go_wp2_with (first | (refine wpList_load_blkG 45 _ _ (Blk.step (Bel.ka0 HB.out (by repeat (with_reducible first | exact Below.refl _ _ | refine Bel.alloc ?_ _ | refine Below.drew ?_ | refine Bel.drewN ?_ _))) HX.out) Try.underlying45 (by kernel_rfl) rfl rfl (by rfl) ?_))
  go_at_call 24; refine (ProjectPoint_I A13 c13 mi (by omega) a0 a1 a2 _ (by repeat (with_reducible first | exact H13.out | assumption | refine Ints.drew ?_ | refine Ints.drewN _ ?_ | refine Ints.alloc _ ?_ | refine Ints.step (by assumption) ?_))).mono ?_; rintro e w14 ⟨rfl, hb14⟩; have hka := Bel.ka HB.out hb14 (by repeat (with_reducible first | exact Below.refl _ _ | refine Bel.alloc ?_ _ | refine Below.drew ?_ | refine Bel.drewN ?_ _)); (try (replace HP := Lib.hid (Blk.step hb14 (Blk.step hka HP.out)))); (try (replace HX := Lib.hid (Blk.step hb14 (Blk.step hka HX.out)))); (try (replace HU := Lib.hid (Blk.step hb14 (Blk.step hka HU.out)))); (try (replace HV := Lib.hid (Blk.step hb14 (Blk.step hka HV.out)))); (try (replace HW := Lib.hid (Blk.step hb14 (Blk.step hka HW.out)))); (try (replace HI := Lib.hid (Ints.step hb14 (Ints.step hka HI.out)))); replace HB := Lib.hid (Bel.step hb14 (Bel.step hka HB.out)); have hsz14 := hb14.size; have hsy14 := hka.size; (try simp only [World.size_alloc, World.size_drew, World.heap_drewN, World.size_setCell] at hsz14 hsy14); clear hka hb14
  generalize prjC mi a0 a1 a2 = kp at *
  generalize prjV mi a0 a1 a2 0 = p0 at *
  generalize prjV mi a0 a1 a2 1 = p1 at *
  generalize prjV mi a0 a1 a2 2 = p2 at *
  have HY := Lib.hid (by have h := Blk.new w14 45 #[.int .i64 p0, .int .i64 p1, .int .i64 p2]; (try simp only [World.size_alloc] at h); exact h)
  replace HP := Lib.hid (Blk.alloc (.cells #[.int .i64 p0, .int .i64 p1, .int .i64 p2] 45) HP.out)
  replace HX := Lib.hid (Blk.alloc (.cells #[.int .i64 p0, .int .i64 p1, .int .i64 p2] 45) HX.out)
  replace HU := Lib.hid (Blk.alloc (.cells #[.int .i64 p0, .int .i64 p1, .int .i64 p2] 45) HU.out)
  replace HV := Lib.hid (Blk.alloc (.cells #[.int .i64 p0, .int .i64 p1, .int .i64 p2] 45) HV.out)
  replace HW := Lib.hid (Blk.alloc (.cells #[.int .i64 p0, .int .i64 p1, .int .i64 p2] 45) HW.out)
  replace HI := Lib.hid (Ints.alloc (.cells #[.int .i64 p0, .int .i64 p1, .int .i64 p2] 45) HI.out)
  replace HB := Lib.hid (Bel.alloc HB.out (.cells #[.int .i64 p0, .int .i64 p1, .int .i64 p2] 45))
  by_cases hp0 : kp = 0
  · obtain ⟨e0, e1, e2⟩ := HB0.out hp0
    subst hp0 e0 e1 e2
    go_upto_region 20 with (first | (refine wpList_load_blkG 45 _ _ HY.out Try.underlying45 (by kernel_rfl) rfl rfl (by rfl) ?_) | (refine wpList_load_blkG 45 _ _ HP.out Try.underlying45 (by kernel_rfl) rfl rfl (by rfl) ?_))
    generalize w14.alloc (.cells #[.int .i64 p0, .int .i64 p1, .int .i64 p2] 45) = W at HP HX HU HV HW HI HB HY ⊢
    by_cases hl0 : kl = 0
    rotate_left
    · go_wp2
      go_ret
      exact ⟨rfl, HB.out⟩
    have HL0 := Lib.hid hl0
    subst hl0
    go_wp2_with (first | (refine wpList_load_blkG 45 _ _ (Blk.step (Bel.ka0 HB.out (by repeat (with_reducible first | exact Below.refl _ _ | refine Bel.alloc ?_ _ | refine Below.drew ?_ | refine Bel.drewN ?_ _))) HU.out) Try.underlying45 (by kernel_rfl) rfl rfl (by rfl) ?_))
    go_at_call 24; refine (ProjectPoint_I (some ⟨g, 0, none⟩) q m hm' ua ub uc _ (by repeat (with_reducible first | exact HI.out | assumption | refine Ints.drew ?_ | refine Ints.drewN _ ?_ | refine Ints.alloc _ ?_ | refine Ints.step (by assumption) ?_))).mono ?_; rintro e w21 ⟨rfl, hb21⟩; have hka := Bel.ka HB.out hb21 (by repeat (with_reducible first | exact Below.refl _ _ | refine Bel.alloc ?_ _ | refine Below.drew ?_ | refine Bel.drewN ?_ _)); (try (replace HU := Lib.hid (Blk.step hb21 (Blk.step hka HU.out)))); (try (replace HV := Lib.hid (Blk.step hb21 (Blk.step hka HV.out)))); (try (replace HW := Lib.hid (Blk.step hb21 (Blk.step hka HW.out)))); (try (replace HI := Lib.hid (Ints.step hb21 (Ints.step hka HI.out)))); replace HB := Lib.hid (Bel.step hb21 (Bel.step hka HB.out)); have hsz21 := hb21.size; have hsy21 := hka.size; (try simp only [World.size_alloc, World.size_drew, World.heap_drewN, World.size_setCell] at hsz21 hsy21); clear hka hb21
    obtain ⟨ra, ha⟩ : ∃ k, k = prjC m ua ub uc := ⟨_, rfl⟩
    obtain ⟨rb, hb⟩ : ∃ k, k = prjV m ua ub uc 0 := ⟨_, rfl⟩
    obtain ⟨rc, hc⟩ : ∃ k, k = prjV m ua ub uc 1 := ⟨_, rfl⟩
    obtain ⟨rd, hd⟩ : ∃ k, k = prjV m ua ub uc 2 := ⟨_, rfl⟩
    rw [← ha, ← hb, ← hc, ← hd]
    have HR := Lib.hid (And.intro ha (And.intro hb (And.intro hc hd)))
    clear ha hb hc hd
    have HRB := Lib.hid (by have h := Blk.new w21 45 #[.int .i64 rb, .int .i64 rc, .int .i64 rd]; (try simp only [World.size_alloc] at h); exact h)
    replace HU := Lib.hid (Blk.alloc (.cells #[.int .i64 rb, .int .i64 rc, .int .i64 rd] 45) HU.out)
    replace HV := Lib.hid (Blk.alloc (.cells #[.int .i64 rb, .int .i64 rc, .int .i64 rd] 45) HV.out)
    replace HW := Lib.hid (Blk.alloc (.cells #[.int .i64 rb, .int .i64 rc, .int .i64 rd] 45) HW.out)
    replace HI := Lib.hid (Ints.alloc (.cells #[.int .i64 rb, .int .i64 rc, .int .i64 rd] 45) HI.out)
    replace HB := Lib.hid (Bel.alloc HB.out (.cells #[.int .i64 rb, .int .i64 rc, .int .i64 rd] 45))
    go_wp2_with (first | (refine wpList_load_blkG 45 _ _ (Blk.step (Bel.ka0 HB.out (by repeat (with_reducible first | exact Below.refl _ _ | refine Bel.alloc ?_ _ | refine Below.drew ?_ | refine Bel.drewN ?_ _))) HV.out) Try.underlying45 (by kernel_rfl) rfl rfl (by rfl) ?_))
    go_at_call 24; refine (ProjectPoint_I (some ⟨g, 0, none⟩) q m hm' va vb vc _ (by repeat (with_reducible first | exact HI.out | assumption | refine Ints.drew ?_ | refine Ints.drewN _ ?_ | refine Ints.alloc _ ?_ | refine Ints.step (by assumption) ?_))).mono ?_; rintro e w22 ⟨rfl, hb22⟩; have hka := Bel.ka HB.out hb22 (by repeat (with_reducible first | exact Below.refl _ _ | refine Bel.alloc ?_ _ | refine Below.drew ?_ | refine Bel.drewN ?_ _)); (try (replace HU := Lib.hid (Blk.step hb22 (Blk.step hka HU.out)))); (try (replace HV := Lib.hid (Blk.step hb22 (Blk.step hka HV.out)))); (try (replace HW := Lib.hid (Blk.step hb22 (Blk.step hka HW.out)))); (try (replace HI := Lib.hid (Ints.step hb22 (Ints.step hka HI.out)))); (try (replace HRB := Lib.hid (Blk.step hb22 (Blk.step hka HRB.out)))); replace HB := Lib.hid (Bel.step hb22 (Bel.step hka HB.out)); have hsz22 := hb22.size; have hsy22 := hka.size; (try simp only [World.size_alloc, World.size_drew, World.heap_drewN, World.size_setCell] at hsz22 hsy22); clear hka hb22
    obtain ⟨sa, ha⟩ : ∃ k, k = prjC m va vb vc := ⟨_, rfl⟩
    obtain ⟨sb, hb⟩ : ∃ k, k = prjV m va vb vc 0 := ⟨_, rfl⟩
    obtain ⟨sc, hc⟩ : ∃ k, k = prjV m va vb vc 1 := ⟨_, rfl⟩
    obtain ⟨sd, hd⟩ : ∃ k, k = prjV m va vb vc 2 := ⟨_, rfl⟩
    rw [← ha, ← hb, ← hc, ← hd]
    have HS := Lib.hid (And.intro ha (And.intro hb (And.intro hc hd)))
    clear ha hb hc hd
    have HSB := Lib.hid (by have h := Blk.new w22 45 #[.int .i64 sb, .int .i64 sc, .int .i64 sd]; (try simp only [World.size_alloc] at h); exact h)
    replace HU := Lib.hid (Blk.alloc (.cells #[.int .i64 sb, .int .i64 sc, .int .i64 sd] 45) HU.out)
    replace HV := Lib.hid (Blk.alloc (.cells #[.int .i64 sb, .int .i64 sc, .int .i64 sd] 45) HV.out)
    replace HW := Lib.hid (Blk.alloc (.cells #[.int .i64 sb, .int .i64 sc, .int .i64 sd] 45) HW.out)
    replace HI := Lib.hid (Ints.alloc (.cells #[.int .i64 sb, .int .i64 sc, .int .i64 sd] 45) HI.out)
    replace HRB := Lib.hid (Blk.alloc (.cells #[.int .i64 sb, .int .i64 sc, .int .i64 sd] 45) HRB.out)
    replace HB := Lib.hid (Bel.alloc HB.out (.cells #[.int .i64 sb, .int .i64 sc, .int .i64 sd] 45))
    go_wp2_with (first | (refine wpList_load_blkG 45 _ _ (Blk.step (Bel.ka0 HB.out (by repeat (with_reducible first | exact Below.refl _ _ | refine Bel.alloc ?_ _ | refine Below.drew ?_ | refine Bel.drewN ?_ _))) HW.out) Try.underlying45 (by kernel_rfl) rfl rfl (by rfl) ?_))
    go_at_call 24; refine (ProjectPoint_I (some ⟨g, 0, none⟩) q m hm' ta tb tc _ (by repeat (with_reducible first | exact HI.out | assumption | refine Ints.drew ?_ | refine Ints.drewN _ ?_ | refine Ints.alloc _ ?_ | refine Ints.step (by assumption) ?_))).mono ?_; rintro e w23 ⟨rfl, hb23⟩; have hka := Bel.ka HB.out hb23 (by repeat (with_reducible first | exact Below.refl _ _ | refine Bel.alloc ?_ _ | refine Below.drew ?_ | refine Bel.drewN ?_ _)); (try (replace HU := Lib.hid (Blk.step hb23 (Blk.step hka HU.out)))); (try (replace HV := Lib.hid (Blk.step hb23 (Blk.step hka HV.out)))); (try (replace HW := Lib.hid (Blk.step hb23 (Blk.step hka HW.out)))); (try (replace HI := Lib.hid (Ints.step hb23 (Ints.step hka HI.out)))); (try (replace HRB := Lib.hid (Blk.step hb23 (Blk.step hka HRB.out)))); (try (replace HSB := Lib.hid (Blk.step hb23 (Blk.step hka HSB.out)))); replace HB := Lib.hid (Bel.step hb23 (Bel.step hka HB.out)); have hsz23 := hb23.size; have hsy23 := hka.size; (try simp only [World.size_alloc, World.size_drew, World.heap_drewN, World.size_setCell] at hsz23 hsy23); clear hka hb23
    obtain ⟨za, ha⟩ : ∃ k, k = prjC m ta tb tc := ⟨_, rfl⟩
    obtain ⟨zb, hb⟩ : ∃ k, k = prjV m ta tb tc 0 := ⟨_, rfl⟩
    obtain ⟨zc, hc⟩ : ∃ k, k = prjV m ta tb tc 1 := ⟨_, rfl⟩
    obtain ⟨zd, hd⟩ : ∃ k, k = prjV m ta tb tc 2 := ⟨_, rfl⟩
    rw [← ha, ← hb, ← hc, ← hd]
    have HZ := Lib.hid (And.intro ha (And.intro hb (And.intro hc hd)))
    clear ha hb hc hd
    have HZB := Lib.hid (by have h := Blk.new w23 45 #[.int .i64 zb, .int .i64 zc, .int .i64 zd]; (try simp only [World.size_alloc] at h); exact h)
    replace HU := Lib.hid (Blk.alloc (.cells #[.int .i64 zb, .int .i64 zc, .int .i64 zd] 45) HU.out)
    replace HV := Lib.hid (Blk.alloc (.cells #[.int .i64 zb, .int .i64 zc, .int .i64 zd] 45) HV.out)
    replace HW := Lib.hid (Blk.alloc (.cells #[.int .i64 zb, .int .i64 zc, .int .i64 zd] 45) HW.out)
    replace HI := Lib.hid (Ints.alloc (.cells #[.int .i64 zb, .int .i64 zc, .int .i64 zd] 45) HI.out)
    replace HRB := Lib.hid (Blk.alloc (.cells #[.int .i64 zb, .int .i64 zc, .int .i64 zd] 45) HRB.out)
    replace HSB := Lib.hid (Blk.alloc (.cells #[.int .i64 zb, .int .i64 zc, .int .i64 zd] 45) HSB.out)
    replace HB := Lib.hid (Bel.alloc HB.out (.cells #[.int .i64 zb, .int .i64 zc, .int .i64 zd] 45))
    by_cases hr0 : ra = 0
    rotate_left
    · go_wp2
      go_ret
      exact ⟨rfl, HB.out⟩
    have HR0 := Lib.hid hr0
    by_cases hs0 : sa = 0
    rotate_left
    · go_wp2
      go_ret
      exact ⟨rfl, HB.out⟩
    have HS0 := Lib.hid hs0
    by_cases hz0 : za = 0
    rotate_left
    · go_wp2
      go_ret
      exact ⟨rfl, HB.out⟩
    have HZ0 := Lib.hid hz0
    subst hr0 hs0 hz0
    go_wp2_with (first | (refine wpList_load_blkG 45 _ _ (Blk.step (Bel.ka0 HB.out (by repeat (with_reducible first | exact Below.refl _ _ | refine Bel.alloc ?_ _ | refine Below.drew ?_ | refine Bel.drewN ?_ _))) HRB.out) Try.underlying45 (by kernel_rfl) rfl rfl (by rfl) ?_) | (refine wpList_load_blkG 45 _ _ (Blk.step (Bel.ka0 HB.out (by repeat (with_reducible first | exact Below.refl _ _ | refine Bel.alloc ?_ _ | refine Below.drew ?_ | refine Bel.drewN ?_ _))) HSB.out) Try.underlying45 (by kernel_rfl) rfl rfl (by rfl) ?_) | (refine wpList_load_blkG 45 _ _ (Blk.step (Bel.ka0 HB.out (by repeat (with_reducible first | exact Below.refl _ _ | refine Bel.alloc ?_ _ | refine Below.drew ?_ | refine Bel.drewN ?_ _))) HZB.out) Try.underlying45 (by kernel_rfl) rfl rfl (by rfl) ?_))
    go_at_call 30; refine (RationalsInLine_I _ _ _ _ _ _ _ _ _ _).mono ?_; rintro e w24 ⟨rfl, hb24⟩; have hka := Bel.ka HB.out hb24 (by repeat (with_reducible first | exact Below.refl _ _ | refine Bel.alloc ?_ _ | refine Below.drew ?_ | refine Bel.drewN ?_ _)); (try (replace HRB := Lib.hid (Blk.step hb24 (Blk.step hka HRB.out)))); replace HB := Lib.hid (Bel.step hb24 (Bel.step hka HB.out)); have hsz24 := hb24.size; have hsy24 := hka.size; (try simp only [World.size_alloc, World.size_drew, World.heap_drewN, World.size_setCell] at hsz24 hsy24); clear hka hb24
    obtain ⟨ke, hke⟩ : ∃ k, k = rilC rb rc rd sb sc sd zb zc zd := ⟨_, rfl⟩
    obtain ⟨be, hbe⟩ : ∃ k, k = rilV rb rc rd sb sc sd zb zc zd := ⟨_, rfl⟩
    rw [← hke, ← hbe]
    have hfin : ke = 3 ∨ ke = 0 ∧ be = bl := by
      have e := line_code (m := m) (k := ke) (v := be) (HL.out.1.symm) (HR.out.1.symm) (HS.out.1.symm) (HZ.out.1.symm) (by rw [hke, HR.out.2.1, HR.out.2.2.1, HR.out.2.2.2, HS.out.2.1, HS.out.2.2.1, HS.out.2.2.2, HZ.out.2.1, HZ.out.2.2.1, HZ.out.2.2.2]) (by rw [hbe, HR.out.2.1, HR.out.2.2.1, HR.out.2.2.2, HS.out.2.1, HS.out.2.2.1, HS.out.2.2.2, HZ.out.2.1, HZ.out.2.2.1, HZ.out.2.2.2])
      rw [← HL.out.2] at e
      exact e
    clear hke hbe
    rcases hfin with rfl | ⟨rfl, rfl⟩
    · go_wp2
      go_ret
      exact ⟨rfl, HB.out⟩
    · go_wp2
      go_ret
      exact ⟨rfl, HB.out⟩
  have hp5 : ¬ kp = 5 := HB5.out
  have hkb0 : (kp == 0) = false := by simpa using hp0
  have hkb5 : (kp == 5) = false := by simpa using hp5
  go_upto_region 20 with (fail)
  generalize w14.alloc (.cells #[.int .i64 p0, .int .i64 p1, .int .i64 p2] 45) = W at HP HX HU HV HW HI HB HY ⊢
  by_cases hl0 : kl = 0
  rotate_left
  · go_wp2
    go_ret
    exact ⟨rfl, HB.out⟩
  have HL0 := Lib.hid hl0
  subst hl0
  go_wp2_with (first | (refine wpList_load_blkG 45 _ _ (Blk.step (Bel.ka0 HB.out (by repeat (with_reducible first | exact Below.refl _ _ | refine Bel.alloc ?_ _ | refine Below.drew ?_ | refine Bel.drewN ?_ _))) HU.out) Try.underlying45 (by kernel_rfl) rfl rfl (by rfl) ?_))
  go_at_call 24; refine (ProjectPoint_I (some ⟨g, 0, none⟩) q m hm' ua ub uc _ (by repeat (with_reducible first | exact HI.out | assumption | refine Ints.drew ?_ | refine Ints.drewN _ ?_ | refine Ints.alloc _ ?_ | refine Ints.step (by assumption) ?_))).mono ?_; rintro e w21 ⟨rfl, hb21⟩; have hka := Bel.ka HB.out hb21 (by repeat (with_reducible first | exact Below.refl _ _ | refine Bel.alloc ?_ _ | refine Below.drew ?_ | refine Bel.drewN ?_ _)); (try (replace HU := Lib.hid (Blk.step hb21 (Blk.step hka HU.out)))); (try (replace HV := Lib.hid (Blk.step hb21 (Blk.step hka HV.out)))); (try (replace HW := Lib.hid (Blk.step hb21 (Blk.step hka HW.out)))); (try (replace HI := Lib.hid (Ints.step hb21 (Ints.step hka HI.out)))); replace HB := Lib.hid (Bel.step hb21 (Bel.step hka HB.out)); have hsz21 := hb21.size; have hsy21 := hka.size; (try simp only [World.size_alloc, World.size_drew, World.heap_drewN, World.size_setCell] at hsz21 hsy21); clear hka hb21
  obtain ⟨ra, ha⟩ : ∃ k, k = prjC m ua ub uc := ⟨_, rfl⟩
  obtain ⟨rb, hb⟩ : ∃ k, k = prjV m ua ub uc 0 := ⟨_, rfl⟩
  obtain ⟨rc, hc⟩ : ∃ k, k = prjV m ua ub uc 1 := ⟨_, rfl⟩
  obtain ⟨rd, hd⟩ : ∃ k, k = prjV m ua ub uc 2 := ⟨_, rfl⟩
  rw [← ha, ← hb, ← hc, ← hd]
  have HR := Lib.hid (And.intro ha (And.intro hb (And.intro hc hd)))
  clear ha hb hc hd
  have HRB := Lib.hid (by have h := Blk.new w21 45 #[.int .i64 rb, .int .i64 rc, .int .i64 rd]; (try simp only [World.size_alloc] at h); exact h)
  replace HU := Lib.hid (Blk.alloc (.cells #[.int .i64 rb, .int .i64 rc, .int .i64 rd] 45) HU.out)
  replace HV := Lib.hid (Blk.alloc (.cells #[.int .i64 rb, .int .i64 rc, .int .i64 rd] 45) HV.out)
  replace HW := Lib.hid (Blk.alloc (.cells #[.int .i64 rb, .int .i64 rc, .int .i64 rd] 45) HW.out)
  replace HI := Lib.hid (Ints.alloc (.cells #[.int .i64 rb, .int .i64 rc, .int .i64 rd] 45) HI.out)
  replace HB := Lib.hid (Bel.alloc HB.out (.cells #[.int .i64 rb, .int .i64 rc, .int .i64 rd] 45))
  go_wp2_with (first | (refine wpList_load_blkG 45 _ _ (Blk.step (Bel.ka0 HB.out (by repeat (with_reducible first | exact Below.refl _ _ | refine Bel.alloc ?_ _ | refine Below.drew ?_ | refine Bel.drewN ?_ _))) HV.out) Try.underlying45 (by kernel_rfl) rfl rfl (by rfl) ?_))
  go_at_call 24; refine (ProjectPoint_I (some ⟨g, 0, none⟩) q m hm' va vb vc _ (by repeat (with_reducible first | exact HI.out | assumption | refine Ints.drew ?_ | refine Ints.drewN _ ?_ | refine Ints.alloc _ ?_ | refine Ints.step (by assumption) ?_))).mono ?_; rintro e w22 ⟨rfl, hb22⟩; have hka := Bel.ka HB.out hb22 (by repeat (with_reducible first | exact Below.refl _ _ | refine Bel.alloc ?_ _ | refine Below.drew ?_ | refine Bel.drewN ?_ _)); (try (replace HU := Lib.hid (Blk.step hb22 (Blk.step hka HU.out)))); (try (replace HV := Lib.hid (Blk.step hb22 (Blk.step hka HV.out)))); (try (replace HW := Lib.hid (Blk.step hb22 (Blk.step hka HW.out)))); (try (replace HI := Lib.hid (Ints.step hb22 (Ints.step hka HI.out)))); (try (replace HRB := Lib.hid (Blk.step hb22 (Blk.step hka HRB.out)))); replace HB := Lib.hid (Bel.step hb22 (Bel.step hka HB.out)); have hsz22 := hb22.size; have hsy22 := hka.size; (try simp only [World.size_alloc, World.size_drew, World.heap_drewN, World.size_setCell] at hsz22 hsy22); clear hka hb22
  obtain ⟨sa, ha⟩ : ∃ k, k = prjC m va vb vc := ⟨_, rfl⟩
  obtain ⟨sb, hb⟩ : ∃ k, k = prjV m va vb vc 0 := ⟨_, rfl⟩
  obtain ⟨sc, hc⟩ : ∃ k, k = prjV m va vb vc 1 := ⟨_, rfl⟩
  obtain ⟨sd, hd⟩ : ∃ k, k = prjV m va vb vc 2 := ⟨_, rfl⟩
  rw [← ha, ← hb, ← hc, ← hd]
  have HS := Lib.hid (And.intro ha (And.intro hb (And.intro hc hd)))
  clear ha hb hc hd
  have HSB := Lib.hid (by have h := Blk.new w22 45 #[.int .i64 sb, .int .i64 sc, .int .i64 sd]; (try simp only [World.size_alloc] at h); exact h)
  replace HU := Lib.hid (Blk.alloc (.cells #[.int .i64 sb, .int .i64 sc, .int .i64 sd] 45) HU.out)
  replace HV := Lib.hid (Blk.alloc (.cells #[.int .i64 sb, .int .i64 sc, .int .i64 sd] 45) HV.out)
  replace HW := Lib.hid (Blk.alloc (.cells #[.int .i64 sb, .int .i64 sc, .int .i64 sd] 45) HW.out)
  replace HI := Lib.hid (Ints.alloc (.cells #[.int .i64 sb, .int .i64 sc, .int .i64 sd] 45) HI.out)
  replace HRB := Lib.hid (Blk.alloc (.cells #[.int .i64 sb, .int .i64 sc, .int .i64 sd] 45) HRB.out)
  replace HB := Lib.hid (Bel.alloc HB.out (.cells #[.int .i64 sb, .int .i64 sc, .int .i64 sd] 45))
  go_wp2_with (first | (refine wpList_load_blkG 45 _ _ (Blk.step (Bel.ka0 HB.out (by repeat (with_reducible first | exact Below.refl _ _ | refine Bel.alloc ?_ _ | refine Below.drew ?_ | refine Bel.drewN ?_ _))) HW.out) Try.underlying45 (by kernel_rfl) rfl rfl (by rfl) ?_))
  go_at_call 24; refine (ProjectPoint_I (some ⟨g, 0, none⟩) q m hm' ta tb tc _ (by repeat (with_reducible first | exact HI.out | assumption | refine Ints.drew ?_ | refine Ints.drewN _ ?_ | refine Ints.alloc _ ?_ | refine Ints.step (by assumption) ?_))).mono ?_; rintro e w23 ⟨rfl, hb23⟩; have hka := Bel.ka HB.out hb23 (by repeat (with_reducible first | exact Below.refl _ _ | refine Bel.alloc ?_ _ | refine Below.drew ?_ | refine Bel.drewN ?_ _)); (try (replace HU := Lib.hid (Blk.step hb23 (Blk.step hka HU.out)))); (try (replace HV := Lib.hid (Blk.step hb23 (Blk.step hka HV.out)))); (try (replace HW := Lib.hid (Blk.step hb23 (Blk.step hka HW.out)))); (try (replace HI := Lib.hid (Ints.step hb23 (Ints.step hka HI.out)))); (try (replace HRB := Lib.hid (Blk.step hb23 (Blk.step hka HRB.out)))); (try (replace HSB := Lib.hid (Blk.step hb23 (Blk.step hka HSB.out)))); replace HB := Lib.hid (Bel.step hb23 (Bel.step hka HB.out)); have hsz23 := hb23.size; have hsy23 := hka.size; (try simp only [World.size_alloc, World.size_drew, World.heap_drewN, World.size_setCell] at hsz23 hsy23); clear hka hb23
  obtain ⟨za, ha⟩ : ∃ k, k = prjC m ta tb tc := ⟨_, rfl⟩
  obtain ⟨zb, hb⟩ : ∃ k, k = prjV m ta tb tc 0 := ⟨_, rfl⟩
  obtain ⟨zc, hc⟩ : ∃ k, k = prjV m ta tb tc 1 := ⟨_, rfl⟩
  obtain ⟨zd, hd⟩ : ∃ k, k = prjV m ta tb tc 2 := ⟨_, rfl⟩
  rw [← ha, ← hb, ← hc, ← hd]
  have HZ := Lib.hid (And.intro ha (And.intro hb (And.intro hc hd)))
  clear ha hb hc hd
  have HZB := Lib.hid (by have h := Blk.new w23 45 #[.int .i64 zb, .int .i64 zc, .int .i64 zd]; (try simp only [World.size_alloc] at h); exact h)
  replace HU := Lib.hid (Blk.alloc (.cells #[.int .i64 zb, .int .i64 zc, .int .i64 zd] 45) HU.out)
  replace HV := Lib.hid (Blk.alloc (.cells #[.int .i64 zb, .int .i64 zc, .int .i64 zd] 45) HV.out)
  replace HW := Lib.hid (Blk.alloc (.cells #[.int .i64 zb, .int .i64 zc, .int .i64 zd] 45) HW.out)
  replace HI := Lib.hid (Ints.alloc (.cells #[.int .i64 zb, .int .i64 zc, .int .i64 zd] 45) HI.out)
  replace HRB := Lib.hid (Blk.alloc (.cells #[.int .i64 zb, .int .i64 zc, .int .i64 zd] 45) HRB.out)
  replace HSB := Lib.hid (Blk.alloc (.cells #[.int .i64 zb, .int .i64 zc, .int .i64 zd] 45) HSB.out)
  replace HB := Lib.hid (Bel.alloc HB.out (.cells #[.int .i64 zb, .int .i64 zc, .int .i64 zd] 45))
  by_cases hr0 : ra = 0
  rotate_left
  · go_wp2
    go_ret
    exact ⟨rfl, HB.out⟩
  have HR0 := Lib.hid hr0
  by_cases hs0 : sa = 0
  rotate_left
  · go_wp2
    go_ret
    exact ⟨rfl, HB.out⟩
  have HS0 := Lib.hid hs0
  by_cases hz0 : za = 0
  rotate_left
  · go_wp2
    go_ret
    exact ⟨rfl, HB.out⟩
  have HZ0 := Lib.hid hz0
  subst hr0 hs0 hz0
  go_wp2_with (first | (refine wpList_load_blkG 45 _ _ (Blk.step (Bel.ka0 HB.out (by repeat (with_reducible first | exact Below.refl _ _ | refine Bel.alloc ?_ _ | refine Below.drew ?_ | refine Bel.drewN ?_ _))) HRB.out) Try.underlying45 (by kernel_rfl) rfl rfl (by rfl) ?_) | (refine wpList_load_blkG 45 _ _ (Blk.step (Bel.ka0 HB.out (by repeat (with_reducible first | exact Below.refl _ _ | refine Bel.alloc ?_ _ | refine Below.drew ?_ | refine Bel.drewN ?_ _))) HSB.out) Try.underlying45 (by kernel_rfl) rfl rfl (by rfl) ?_) | (refine wpList_load_blkG 45 _ _ (Blk.step (Bel.ka0 HB.out (by repeat (with_reducible first | exact Below.refl _ _ | refine Bel.alloc ?_ _ | refine Below.drew ?_ | refine Bel.drewN ?_ _))) HZB.out) Try.underlying45 (by kernel_rfl) rfl rfl (by rfl) ?_))
  go_at_call 30; refine (RationalsInLine_I _ _ _ _ _ _ _ _ _ _).mono ?_; rintro e w24 ⟨rfl, hb24⟩; have hka := Bel.ka HB.out hb24 (by repeat (with_reducible first | exact Below.refl _ _ | refine Bel.alloc ?_ _ | refine Below.drew ?_ | refine Bel.drewN ?_ _)); (try (replace HRB := Lib.hid (Blk.step hb24 (Blk.step hka HRB.out)))); replace HB := Lib.hid (Bel.step hb24 (Bel.step hka HB.out)); have hsz24 := hb24.size; have hsy24 := hka.size; (try simp only [World.size_alloc, World.size_drew, World.heap_drewN, World.size_setCell] at hsz24 hsy24); clear hka hb24
  obtain ⟨ke, hke⟩ : ∃ k, k = rilC rb rc rd sb sc sd zb zc zd := ⟨_, rfl⟩
  obtain ⟨be, hbe⟩ : ∃ k, k = rilV rb rc rd sb sc sd zb zc zd := ⟨_, rfl⟩
  rw [← hke, ← hbe]
  have hfin : ke = 3 ∨ ke = 0 ∧ be = bl := by
    have e := line_code (m := m) (k := ke) (v := be) (HL.out.1.symm) (HR.out.1.symm) (HS.out.1.symm) (HZ.out.1.symm) (by rw [hke, HR.out.2.1, HR.out.2.2.1, HR.out.2.2.2, HS.out.2.1, HS.out.2.2.1, HS.out.2.2.2, HZ.out.2.1, HZ.out.2.2.1, HZ.out.2.2.2]) (by rw [hbe, HR.out.2.1, HR.out.2.2.1, HR.out.2.2.2, HS.out.2.1, HS.out.2.2.1, HS.out.2.2.2, HZ.out.2.1, HZ.out.2.2.1, HZ.out.2.2.2])
    rw [← HL.out.2] at e
    exact e
  clear hke hbe
  rcases hfin with rfl | ⟨rfl, rfl⟩
  · go_wp2
    go_ret
    exact ⟨rfl, HB.out⟩
  · go_wp2
    go_ret
    exact ⟨rfl, HB.out⟩
end Go.Proofs.Ythfphjbaglgacaa
