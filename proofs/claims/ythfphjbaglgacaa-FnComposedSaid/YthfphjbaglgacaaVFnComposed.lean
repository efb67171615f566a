/- The statement FnComposed, walked. No conditions. -/
import Derived.Test.YthfphjbaglgacaaProg
import Derived.Test.YthfphjbaglgacaaBase
import Derived.Test.YthfphjbaglgacaaRw
import Derived.Test.YthfphjbaglgacaaRg
import Derived.Test.YthfphjbaglgacaaL01
import Derived.Test.YthfphjbaglgacaaCp
import Derived.Test.YthfphjbaglgacaaL22
import Derived.Test.YthfphjbaglgacaaL25
import Derived.Test.YthfphjbaglgacaaL25b
import Derived.Test.YthfphjbaglgacaaL25c
import Derived.Test.YthfphjbaglgacaaL25d
import Derived.Test.YthfphjbaglgacaaL25e
import Derived.Test.YthfphjbaglgacaaL25f
import Derived.Test.YthfphjbaglgacaaL25g
import Derived.Test.YthfphjbaglgacaaL25h
import Derived.Test.YthfphjbaglgacaaL25i
import Derived.Test.YthfphjbaglgacaaP25
import Derived.Test.YthfphjbaglgacaaE24
import Derived.Test.YthfphjbaglgacaaE23
import Derived.Test.YthfphjbaglgacaaE25
import Derived.Test.YthfphjbaglgacaaD00
import Derived.Test.YthfphjbaglgacaaD01
import Derived.Test.YthfphjbaglgacaaD25
import Derived.Test.YthfphjbaglgacaaD25b
import Derived.WalkKit
import Derived.WalkSpells
import Derived.WalkLawsBesides
import Derived.Lib.Hide
import Derived.Deep.QuietTactic
import Derived.BigQuiet
import Derived.Deep.Draws
import Derived.Deep.RegionHeld3
import Derived.Deep.Cut
namespace Go.Proofs.Ythfphjbaglgacaa
open Go.RowKit
set_option linter.unusedVariables false
set_option linter.unusedSimpArgs false
/-- What is known of a rounded point, and no product overflows. -/
structure RndF (x z r : Int) : Prop where
  a : IntKind.i64.wrap (r * z) = r * z
  b : IntKind.i64.wrap (r * z - x) = r * z - x
  c : IntKind.i64.wrap (2 * (r * z - x)) = 2 * (r * z - x)
  d : IntKind.i64.wrap (x - r * z) = x - r * z
  e : IntKind.i64.wrap (2 * (x - r * z)) = 2 * (x - r * z)
  f : 2 * (r * z - x) ≤ z
  g : 2 * (x - r * z) ≤ z
theorem rnd_facts {x y z : Int} (h : rndC x y z = 0) {u : Int} (hu : u = x ∨ u = y) : RndF u z (rndV x y z u) := by
  obtain ⟨e, n1, n2, b1, b2, b3, b4, b5, b6⟩ := rnd_near h u hu
  rw [e]
  obtain ⟨m1, m2⟩ := mul_bd (Nr u z) z 100000 1000000000000 (by omega) (by omega) (by omega) (by omega)
  exact ⟨wr64 (by omega) (by omega), wr64 (by omega) (by omega), wr64 (by omega) (by omega), wr64 (by omega) (by omega), wr64 (by omega) (by omega), n1, n2⟩
set_option maxRecDepth 50000 in
set_option maxHeartbeats 32000000 in
theorem FnComposed_w (w : World) (A : Option Addr) (c : Nat) (zs : List Int) (hl : zs.length ≤ 9223372036854775807) (hA : Byts w A zs) :
    Calls Try.prog 5 #[.slice A zs.length c] w fun e w' => e = .returned (.bool true) ∧ Below w.heap.size w w' := by
  have HB := Lib.hid (Below.refl w.heap.size w)
  by_cases hz : zs.length ≤ 4096
  rotate_left
  · go_enter Try.func5, Try.ntmps5
    go_wp2_with fail
    go_at_call 9; refine (big_yes A c zs.length (by omega) _).mono ?_; rintro e w' ⟨rfl, rfl⟩
    go_wp2
    go_ret
    exact ⟨rfl, HB.out⟩
  have HA := Lib.hid hA
  clear hA hl
  go_enter Try.func5, Try.ntmps5
  go_wp2_with fail
  go_at_call 9; refine (big_no A c zs.length hz _).mono ?_; rintro e w' ⟨rfl, rfl⟩
  go_wp2_with fail
  go_at_call 35; refine (DrawComposeProjections_c A c zs hz _ HA.out).mono ?_; rintro e w1 ⟨a, ga, qa, b, gb, qb, rfl, ha9, hb9, hOa, hOb, hb1⟩; have hka := Bel.ka HB.out hb1 (by repeat (with_reducible first | exact Below.refl _ _ | refine Bel.alloc ?_ _ | refine Below.drew ?_ | refine Bel.drewN ?_ _)); (try (replace HA := Lib.hid (Byts.step hb1 (Byts.step hka HA.out)))); replace HB := Lib.hid (Bel.step hb1 (Bel.step hka HB.out)); have hsz1 := hb1.size; have hsy1 := hka.size; (try simp only [World.size_alloc, World.size_drew, World.heap_drewN, World.size_setCell] at hsz1 hsy1); clear hka hb1
  have HIa := Lib.hid hOa.ints
  have HIb := Lib.hid hOb.ints
  clear hOa hOb
  go_wp2_with fail
  go_at_call 36; refine (ComposeProjections_I (some ⟨ga, 0, none⟩) (some ⟨gb, 0, none⟩) qa qb a b (by omega) (by omega) _ (by repeat (with_reducible first | exact HIa.out | assumption | refine Ints.drew ?_ | refine Ints.drewN _ ?_ | refine Ints.alloc _ ?_ | refine Ints.step (by assumption) ?_)) (by repeat (with_reducible first | exact HIb.out | assumption | refine Ints.drew ?_ | refine Ints.drewN _ ?_ | refine Ints.alloc _ ?_ | refine Ints.step (by assumption) ?_))).mono ?_; rintro e w2 ⟨v2, rfl, hO2, hb2⟩; have hka := Bel.ka HB.out hb2 (by repeat (with_reducible first | exact Below.refl _ _ | refine Bel.alloc ?_ _ | refine Below.drew ?_ | refine Bel.drewN ?_ _)); (try (replace HIa := Lib.hid (Ints.step hb2 (Ints.step hka HIa.out)))); (try (replace HIb := Lib.hid (Ints.step hb2 (Ints.step hka HIb.out)))); (try (replace HA := Lib.hid (Byts.step hb2 (Byts.step hka HA.out)))); replace HB := Lib.hid (Bel.step hb2 (Bel.step hka HB.out)); have hsz2 := hb2.size; have hsy2 := hka.size; (try simp only [World.size_alloc, World.size_drew, World.heap_drewN, World.size_setCell] at hsz2 hsy2); clear hka hb2
  obtain ⟨A2, c2, rfl, _, _, hI2, _⟩ := hO2.form
  have H2 := Lib.hid hI2
  clear hI2 hO2
  go_wp2_with fail
  go_at_call 37; refine (ComposeProjections_S (some ⟨ga, 0, none⟩) (some ⟨gb, 0, none⟩) qa qb a b (by omega) (by omega) _ (by repeat (with_reducible first | exact HIa.out | assumption | refine Ints.drew ?_ | refine Ints.drewN _ ?_ | refine Ints.alloc _ ?_ | refine Ints.step (by assumption) ?_)) (by repeat (with_reducible first | exact HIb.out | assumption | refine Ints.drew ?_ | refine Ints.drewN _ ?_ | refine Ints.alloc _ ?_ | refine Ints.step (by assumption) ?_))).mono ?_; rintro e w3 ⟨v3, rfl, hO3, hb3⟩; have hka := Bel.ka HB.out hb3 (by repeat (with_reducible first | exact Below.refl _ _ | refine Bel.alloc ?_ _ | refine Below.drew ?_ | refine Bel.drewN ?_ _)); (try (replace HIa := Lib.hid (Ints.step hb3 (Ints.step hka HIa.out)))); (try (replace HIb := Lib.hid (Ints.step hb3 (Ints.step hka HIb.out)))); (try (replace H2 := Lib.hid (Ints.step hb3 (Ints.step hka H2.out)))); (try (replace HA := Lib.hid (Byts.step hb3 (Byts.step hka HA.out)))); replace HB := Lib.hid (Bel.step hb3 (Bel.step hka HB.out)); have hsz3 := hb3.size; have hsy3 := hka.size; (try simp only [World.size_alloc, World.size_drew, World.heap_drewN, World.size_setCell] at hsz3 hsy3); clear hka hb3
  obtain ⟨A3, c3, rfl, _, _, hI3, _⟩ := hO3.form
  have H3 := Lib.hid hI3
  clear hI3 hO3
  have hC9 := comR_len a b
  have hcom := fun (x y z : Int) (h : comC a b = 0) h1 h2 h3 => com_img (a := a) (b := b) (x := x) (y := y) (z := z) h h1 h2 h3
  have HCOM := Lib.hid hcom
  clear hcom
  generalize comR a b = C at *
  generalize comC a b = kc at *
  go_wp2_with fail
  go_at_call 38; refine (DrawMakeRational_c A c zs hz _ HA.out).mono ?_; rintro e w4 ⟨x, y, z, rfl, hb4⟩; have hka := Bel.ka HB.out hb4 (by repeat (with_reducible first | exact Below.refl _ _ | refine Bel.alloc ?_ _ | refine Below.drew ?_ | refine Bel.drewN ?_ _)); (try (replace HIa := Lib.hid (Ints.step hb4 (Ints.step hka HIa.out)))); (try (replace HIb := Lib.hid (Ints.step hb4 (Ints.step hka HIb.out)))); (try (replace H2 := Lib.hid (Ints.step hb4 (Ints.step hka H2.out)))); (try (replace H3 := Lib.hid (Ints.step hb4 (Ints.step hka H3.out)))); (try (replace HA := Lib.hid (Byts.step hb4 (Byts.step hka HA.out)))); replace HB := Lib.hid (Bel.step hb4 (Bel.step hka HB.out)); have hsz4 := hb4.size; have hsy4 := hka.size; (try simp only [World.size_alloc, World.size_drew, World.heap_drewN, World.size_setCell] at hsz4 hsy4); clear hka hb4
  go_wp2_with fail
  go_at_call 39; refine (MakeRational_I x y z _).mono ?_; rintro e w5 ⟨rfl, hb5⟩; have hka := Bel.ka HB.out hb5 (by repeat (with_reducible first | exact Below.refl _ _ | refine Bel.alloc ?_ _ | refine Below.drew ?_ | refine Bel.drewN ?_ _)); (try (replace HIa := Lib.hid (Ints.step hb5 (Ints.step hka HIa.out)))); (try (replace HIb := Lib.hid (Ints.step hb5 (Ints.step hka HIb.out)))); (try (replace H2 := Lib.hid (Ints.step hb5 (Ints.step hka H2.out)))); (try (replace H3 := Lib.hid (Ints.step hb5 (Ints.step hka H3.out)))); (try (replace HA := Lib.hid (Byts.step hb5 (Byts.step hka HA.out)))); replace HB := Lib.hid (Bel.step hb5 (Bel.step hka HB.out)); have hsz5 := hb5.size; have hsy5 := hka.size; (try simp only [World.size_alloc, World.size_drew, World.heap_drewN, World.size_setCell] at hsz5 hsy5); clear hka hb5
  obtain ⟨kp, hkp⟩ : ∃ k, k = mkC x y z := ⟨_, rfl⟩
  obtain ⟨p0, hp0⟩ : ∃ k, k = mkV x y z x := ⟨_, rfl⟩
  obtain ⟨p1, hp1⟩ : ∃ k, k = mkV x y z y := ⟨_, rfl⟩
  obtain ⟨p2, hp2⟩ : ∃ k, k = mkV x y z z := ⟨_, rfl⟩
  rw [← hkp, ← hp0, ← hp1, ← hp2]
  have HPV := Lib.hid (And.intro hkp (And.intro hp0 (And.intro hp1 hp2)))
  clear hkp hp0 hp1 hp2
  have HP := Lib.hid (by have h := Blk.new w5 45 #[.int .i64 p0, .int .i64 p1, .int .i64 p2]; (try simp only [World.size_alloc] at h); exact h)
  replace HIa := Lib.hid (Ints.alloc (.cells #[.int .i64 p0, .int .i64 p1, .int .i64 p2] 45) HIa.out)
  replace HIb := Lib.hid (Ints.alloc (.cells #[.int .i64 p0, .int .i64 p1, .int .i64 p2] 45) HIb.out)
  replace H2 := Lib.hid (Ints.alloc (.cells #[.int .i64 p0, .int .i64 p1, .int .i64 p2] 45) H2.out)
  replace H3 := Lib.hid (Ints.alloc (.cells #[.int .i64 p0, .int .i64 p1, .int .i64 p2] 45) H3.out)
  replace HA := Lib.hid (Byts.alloc (.cells #[.int .i64 p0, .int .i64 p1, .int .i64 p2] 45) HA.out)
  replace HB := Lib.hid (Bel.alloc HB.out (.cells #[.int .i64 p0, .int .i64 p1, .int .i64 p2] 45))
  go_wp2_with fail
  go_at_call 40; refine (MakeRational_S x y z _).mono ?_; rintro e w6 ⟨rfl, hb6⟩; have hka := Bel.ka HB.out hb6 (by repeat (with_reducible first | exact Below.refl _ _ | refine Bel.alloc ?_ _ | refine Below.drew ?_ | refine Bel.drewN ?_ _)); (try (replace HP := Lib.hid (Blk.step hb6 (Blk.step hka HP.out)))); (try (replace HIa := Lib.hid (Ints.step hb6 (Ints.step hka HIa.out)))); (try (replace HIb := Lib.hid (Ints.step hb6 (Ints.step hka HIb.out)))); (try (replace H2 := Lib.hid (Ints.step hb6 (Ints.step hka H2.out)))); (try (replace H3 := Lib.hid (Ints.step hb6 (Ints.step hka H3.out)))); (try (replace HA := Lib.hid (Byts.step hb6 (Byts.step hka HA.out)))); replace HB := Lib.hid (Bel.step hb6 (Bel.step hka HB.out)); have hsz6 := hb6.size; have hsy6 := hka.size; (try simp only [World.size_alloc, World.size_drew, World.heap_drewN, World.size_setCell] at hsz6 hsy6); clear hka hb6
  rw [← HPV.out.1, ← HPV.out.2.1, ← HPV.out.2.2.1, ← HPV.out.2.2.2]
  have HP2 := Lib.hid (by have h := Blk.new w6 45 #[.int .i64 p0, .int .i64 p1, .int .i64 p2]; (try simp only [World.size_alloc] at h); exact h)
  replace HP := Lib.hid (Blk.alloc (.cells #[.int .i64 p0, .int .i64 p1, .int .i64 p2] 45) HP.out)
  replace HIa := Lib.hid (Ints.alloc (.cells #[.int .i64 p0, .int .i64 p1, .int .i64 p2] 45) HIa.out)
  replace HIb := Lib.hid (Ints.alloc (.cells #[.int .i64 p0, .int .i64 p1, .int .i64 p2] 45) HIb.out)
  replace H2 := Lib.hid (Ints.alloc (.cells #[.int .i64 p0, .int .i64 p1, .int .i64 p2] 45) H2.out)
  replace H3 := Lib.hid (Ints.alloc (.cells #[.int .i64 p0, .int .i64 p1, .int .i64 p2] 45) H3.out)
  replace HA := Lib.hid (Byts.alloc (.cells #[.int .i64 p0, .int .i64 p1, .int .i64 p2] 45) HA.out)
  replace HB := Lib.hid (Bel.alloc HB.out (.cells #[.int .i64 p0, .int .i64 p1, .int .i64 p2] 45))
  go_wp2_with fail
  go_at_call 41; refine (DrawRoundPoint_c A c zs hz _ HA.out).mono ?_; rintro e w7 ⟨qx, qy, qz, rfl, hb7⟩; have hka := Bel.ka HB.out hb7 (by repeat (with_reducible first | exact Below.refl _ _ | refine Bel.alloc ?_ _ | refine Below.drew ?_ | refine Bel.drewN ?_ _)); (try (replace HP := Lib.hid (Blk.step hb7 (Blk.step hka HP.out)))); (try (replace HP2 := Lib.hid (Blk.step hb7 (Blk.step hka HP2.out)))); (try (replace HIa := Lib.hid (Ints.step hb7 (Ints.step hka HIa.out)))); (try (replace HIb := Lib.hid (Ints.step hb7 (Ints.step hka HIb.out)))); (try (replace H2 := Lib.hid (Ints.step hb7 (Ints.step hka H2.out)))); (try (replace H3 := Lib.hid (Ints.step hb7 (Ints.step hka H3.out)))); (try (replace HA := Lib.hid (Byts.step hb7 (Byts.step hka HA.out)))); replace HB := Lib.hid (Bel.step hb7 (Bel.step hka HB.out)); have hsz7 := hb7.size; have hsy7 := hka.size; (try simp only [World.size_alloc, World.size_drew, World.heap_drewN, World.size_setCell] at hsz7 hsy7); clear hka hb7
  have HQ := Lib.hid (by have h := Blk.new w7 45 #[.int .i64 qx, .int .i64 qy, .int .i64 qz]; (try simp only [World.size_alloc] at h); exact h)
  replace HP := Lib.hid (Blk.alloc (.cells #[.int .i64 qx, .int .i64 qy, .int .i64 qz] 45) HP.out)
  replace HP2 := Lib.hid (Blk.alloc (.cells #[.int .i64 qx, .int .i64 qy, .int .i64 qz] 45) HP2.out)
  replace HIa := Lib.hid (Ints.alloc (.cells #[.int .i64 qx, .int .i64 qy, .int .i64 qz] 45) HIa.out)
  replace HIb := Lib.hid (Ints.alloc (.cells #[.int .i64 qx, .int .i64 qy, .int .i64 qz] 45) HIb.out)
  replace H2 := Lib.hid (Ints.alloc (.cells #[.int .i64 qx, .int .i64 qy, .int .i64 qz] 45) H2.out)
  replace H3 := Lib.hid (Ints.alloc (.cells #[.int .i64 qx, .int .i64 qy, .int .i64 qz] 45) H3.out)
  replace HA := Lib.hid (Byts.alloc (.cells #[.int .i64 qx, .int .i64 qy, .int .i64 qz] 45) HA.out)
  replace HB := Lib.hid (Bel.alloc HB.out (.cells #[.int .i64 qx, .int .i64 qy, .int .i64 qz] 45))
  go_wp2_with (first | (refine wpList_load_blkG 45 _ _ (Blk.step (Bel.ka0 HB.out (by repeat (with_reducible first | exact Below.refl _ _ | refine Bel.alloc ?_ _ | refine Below.drew ?_ | refine Bel.drewN ?_ _))) HQ.out) Try.underlying45 (by kernel_rfl) rfl rfl (by rfl) ?_))
  go_at_call 42; refine (RoundPoint_I qx qy qz _).mono ?_; rintro e w8 ⟨rfl, hb8⟩; have hka := Bel.ka HB.out hb8 (by repeat (with_reducible first | exact Below.refl _ _ | refine Bel.alloc ?_ _ | refine Below.drew ?_ | refine Bel.drewN ?_ _)); (try (replace HP := Lib.hid (Blk.step hb8 (Blk.step hka HP.out)))); (try (replace HP2 := Lib.hid (Blk.step hb8 (Blk.step hka HP2.out)))); (try (replace HQ := Lib.hid (Blk.step hb8 (Blk.step hka HQ.out)))); (try (replace HIa := Lib.hid (Ints.step hb8 (Ints.step hka HIa.out)))); (try (replace HIb := Lib.hid (Ints.step hb8 (Ints.step hka HIb.out)))); (try (replace H2 := Lib.hid (Ints.step hb8 (Ints.step hka H2.out)))); (try (replace H3 := Lib.hid (Ints.step hb8 (Ints.step hka H3.out)))); (try (replace HA := Lib.hid (Byts.step hb8 (Byts.step hka HA.out)))); replace HB := Lib.hid (Bel.step hb8 (Bel.step hka HB.out)); have hsz8 := hb8.size; have hsy8 := hka.size; (try simp only [World.size_alloc, World.size_drew, World.heap_drewN, World.size_setCell] at hsz8 hsy8); clear hka hb8
  have HRF := Lib.hid (fun (h : rndC qx qy qz = 0) => And.intro (rnd_facts h (.inl rfl : qx = qx ∨ qx = qy)) (rnd_facts h (.inr rfl : qy = qx ∨ qy = qy)))
  obtain ⟨kr, hkr⟩ : ∃ k, k = rndC qx qy qz := ⟨_, rfl⟩
  obtain ⟨r0, hr0⟩ : ∃ k, k = rndV qx qy qz qx := ⟨_, rfl⟩
  obtain ⟨r1, hr1⟩ : ∃ k, k = rndV qx qy qz qy := ⟨_, rfl⟩
  rw [← hkr, ← hr0, ← hr1]
  have HRV := Lib.hid (And.intro hkr (And.intro hr0 hr1))
  clear hkr hr0 hr1
  rw [← HRV.out.1, ← HRV.out.2.1, ← HRV.out.2.2] at HRF
  have HR := Lib.hid (by have h := Blk.new w8 66 #[.int .i64 r0, .int .i64 r1]; (try simp only [World.size_alloc] at h); exact h)
  replace HP := Lib.hid (Blk.alloc (.cells #[.int .i64 r0, .int .i64 r1] 66) HP.out)
  replace HP2 := Lib.hid (Blk.alloc (.cells #[.int .i64 r0, .int .i64 r1] 66) HP2.out)
  replace HQ := Lib.hid (Blk.alloc (.cells #[.int .i64 r0, .int .i64 r1] 66) HQ.out)
  replace HIa := Lib.hid (Ints.alloc (.cells #[.int .i64 r0, .int .i64 r1] 66) HIa.out)
  replace HIb := Lib.hid (Ints.alloc (.cells #[.int .i64 r0, .int .i64 r1] 66) HIb.out)
  replace H2 := Lib.hid (Ints.alloc (.cells #[.int .i64 r0, .int .i64 r1] 66) H2.out)
  replace H3 := Lib.hid (Ints.alloc (.cells #[.int .i64 r0, .int .i64 r1] 66) H3.out)
  replace HA := Lib.hid (Byts.alloc (.cells #[.int .i64 r0, .int .i64 r1] 66) HA.out)
  replace HB := Lib.hid (Bel.alloc HB.out (.cells #[.int .i64 r0, .int .i64 r1] 66))
  go_wp2_with (first | (refine wpList_load_blkG 45 _ _ (Blk.step (Bel.ka0 HB.out (by repeat (with_reducible first | exact Below.refl _ _ | refine Bel.alloc ?_ _ | refine Below.drew ?_ | refine Bel.drewN ?_ _))) HQ.out) Try.underlying45 (by kernel_rfl) rfl rfl (by rfl) ?_))
  go_at_call 43; refine (RoundPoint_S qx qy qz _).mono ?_; rintro e w9 ⟨rfl, hb9⟩; have hka := Bel.ka HB.out hb9 (by repeat (with_reducible first | exact Below.refl _ _ | refine Bel.alloc ?_ _ | refine Below.drew ?_ | refine Bel.drewN ?_ _)); (try (replace HP := Lib.hid (Blk.step hb9 (Blk.step hka HP.out)))); (try (replace HP2 := Lib.hid (Blk.step hb9 (Blk.step hka HP2.out)))); (try (replace HQ := Lib.hid (Blk.step hb9 (Blk.step hka HQ.out)))); (try (replace HR := Lib.hid (Blk.step hb9 (Blk.step hka HR.out)))); (try (replace HIa := Lib.hid (Ints.step hb9 (Ints.step hka HIa.out)))); (try (replace HIb := Lib.hid (Ints.step hb9 (Ints.step hka HIb.out)))); (try (replace H2 := Lib.hid (Ints.step hb9 (Ints.step hka H2.out)))); (try (replace H3 := Lib.hid (Ints.step hb9 (Ints.step hka H3.out)))); (try (replace HA := Lib.hid (Byts.step hb9 (Byts.step hka HA.out)))); replace HB := Lib.hid (Bel.step hb9 (Bel.step hka HB.out)); have hsz9 := hb9.size; have hsy9 := hka.size; (try simp only [World.size_alloc, World.size_drew, World.heap_drewN, World.size_setCell] at hsz9 hsy9); clear hka hb9
  rw [← HRV.out.1, ← HRV.out.2.1, ← HRV.out.2.2]
  have HR2 := Lib.hid (by have h := Blk.new w9 66 #[.int .i64 r0, .int .i64 r1]; (try simp only [World.size_alloc] at h); exact h)
  replace HP := Lib.hid (Blk.alloc (.cells #[.int .i64 r0, .int .i64 r1] 66) HP.out)
  replace HP2 := Lib.hid (Blk.alloc (.cells #[.int .i64 r0, .int .i64 r1] 66) HP2.out)
  replace HQ := Lib.hid (Blk.alloc (.cells #[.int .i64 r0, .int .i64 r1] 66) HQ.out)
  replace HR := Lib.hid (Blk.alloc (.cells #[.int .i64 r0, .int .i64 r1] 66) HR.out)
  replace HIa := Lib.hid (Ints.alloc (.cells #[.int .i64 r0, .int .i64 r1] 66) HIa.out)
  replace HIb := Lib.hid (Ints.alloc (.cells #[.int .i64 r0, .int .i64 r1] 66) HIb.out)
  replace H2 := Lib.hid (Ints.alloc (.cells #[.int .i64 r0, .int .i64 r1] 66) H2.out)
  replace H3 := Lib.hid (Ints.alloc (.cells #[.int .i64 r0, .int .i64 r1] 66) H3.out)
  replace HA := Lib.hid (Byts.alloc (.cells #[.int .i64 r0, .int .i64 r1] 66) HA.out)
  replace HB := Lib.hid (Bel.alloc HB.out (.cells #[.int .i64 r0, .int .i64 r1] 66))
  go_wp2_with fail
  go_at_call 44; refine (DrawFixedByAll_c A c zs hz _ HA.out).mono ?_; rintro e w10 ⟨m, gm, qm, rfl, hm9, hOm, hb10⟩; have hka := Bel.ka HB.out hb10 (by repeat (with_reducible first | exact Below.refl _ _ | refine Bel.alloc ?_ _ | refine Below.drew ?_ | refine Bel.drewN ?_ _)); (try (replace HP := Lib.hid (Blk.step hb10 (Blk.step hka HP.out)))); (try (replace HP2 := Lib.hid (Blk.step hb10 (Blk.step hka HP2.out)))); (try (replace HQ := Lib.hid (Blk.step hb10 (Blk.step hka HQ.out)))); (try (replace HR := Lib.hid (Blk.step hb10 (Blk.step hka HR.out)))); (try (replace HR2 := Lib.hid (Blk.step hb10 (Blk.step hka HR2.out)))); (try (replace HIa := Lib.hid (Ints.step hb10 (Ints.step hka HIa.out)))); (try (replace HIb := Lib.hid (Ints.step hb10 (Ints.step hka HIb.out)))); (try (replace H2 := Lib.hid (Ints.step hb10 (Ints.step hka H2.out)))); (try (replace H3 := Lib.hid (Ints.step hb10 (Ints.step hka H3.out)))); replace HB := Lib.hid (Bel.step hb10 (Bel.step hka HB.out)); have hsz10 := hb10.size; have hsy10 := hka.size; (try simp only [World.size_alloc, World.size_drew, World.heap_drewN, World.size_setCell] at hsz10 hsy10); clear hka hb10
  have HIm := Lib.hid hOm.ints
  clear hOm HA
  go_wp2_with fail
  go_at_call 45; refine (FixedByAll_I (some ⟨gm, 0, none⟩) qm m (by omega) _ (by repeat (with_reducible first | exact HIm.out | assumption | refine Ints.drew ?_ | refine Ints.drewN _ ?_ | refine Ints.alloc _ ?_ | refine Ints.step (by assumption) ?_))).mono ?_; rintro e w11 ⟨rfl, hb11⟩; have hka := Bel.ka HB.out hb11 (by repeat (with_reducible first | exact Below.refl _ _ | refine Bel.alloc ?_ _ | refine Below.drew ?_ | refine Bel.drewN ?_ _)); (try (replace HP := Lib.hid (Blk.step hb11 (Blk.step hka HP.out)))); (try (replace HP2 := Lib.hid (Blk.step hb11 (Blk.step hka HP2.out)))); (try (replace HQ := Lib.hid (Blk.step hb11 (Blk.step hka HQ.out)))); (try (replace HR := Lib.hid (Blk.step hb11 (Blk.step hka HR.out)))); (try (replace HR2 := Lib.hid (Blk.step hb11 (Blk.step hka HR2.out)))); (try (replace HIm := Lib.hid (Ints.step hb11 (Ints.step hka HIm.out)))); (try (replace HIa := Lib.hid (Ints.step hb11 (Ints.step hka HIa.out)))); (try (replace HIb := Lib.hid (Ints.step hb11 (Ints.step hka HIb.out)))); (try (replace H2 := Lib.hid (Ints.step hb11 (Ints.step hka H2.out)))); (try (replace H3 := Lib.hid (Ints.step hb11 (Ints.step hka H3.out)))); replace HB := Lib.hid (Bel.step hb11 (Bel.step hka HB.out)); have hsz11 := hb11.size; have hsy11 := hka.size; (try simp only [World.size_alloc, World.size_drew, World.heap_drewN, World.size_setCell] at hsz11 hsy11); clear hka hb11
  obtain ⟨kf, hkf⟩ : ∃ k, k = fixC m := ⟨_, rfl⟩
  obtain ⟨bf, hbf⟩ : ∃ k, k = fixV m := ⟨_, rfl⟩
  rw [← hkf, ← hbf]
  have HF := Lib.hid (And.intro hkf hbf)
  clear hkf hbf
  go_wp2_with fail
  go_at_call 46; refine (FixedByAll_S (some ⟨gm, 0, none⟩) qm m (by omega) _ (by repeat (with_reducible first | exact HIm.out | assumption | refine Ints.drew ?_ | refine Ints.drewN _ ?_ | refine Ints.alloc _ ?_ | refine Ints.step (by assumption) ?_))).mono ?_; rintro e w12 ⟨rfl, hb12⟩; have hka := Bel.ka HB.out hb12 (by repeat (with_reducible first | exact Below.refl _ _ | refine Bel.alloc ?_ _ | refine Below.drew ?_ | refine Bel.drewN ?_ _)); (try (replace HP := Lib.hid (Blk.step hb12 (Blk.step hka HP.out)))); (try (replace HP2 := Lib.hid (Blk.step hb12 (Blk.step hka HP2.out)))); (try (replace HQ := Lib.hid (Blk.step hb12 (Blk.step hka HQ.out)))); (try (replace HR := Lib.hid (Blk.step hb12 (Blk.step hka HR.out)))); (try (replace HR2 := Lib.hid (Blk.step hb12 (Blk.step hka HR2.out)))); (try (replace HIm := Lib.hid (Ints.step hb12 (Ints.step hka HIm.out)))); (try (replace HIa := Lib.hid (Ints.step hb12 (Ints.step hka HIa.out)))); (try (replace HIb := Lib.hid (Ints.step hb12 (Ints.step hka HIb.out)))); (try (replace H2 := Lib.hid (Ints.step hb12 (Ints.step hka H2.out)))); (try (replace H3 := Lib.hid (Ints.step hb12 (Ints.step hka H3.out)))); replace HB := Lib.hid (Bel.step hb12 (Bel.step hka HB.out)); have hsz12 := hb12.size; have hsy12 := hka.size; (try simp only [World.size_alloc, World.size_drew, World.heap_drewN, World.size_setCell] at hsz12 hsy12); clear hka hb12
  rw [← HF.out.1, ← HF.out.2]
  go_wp2_with fail
  go_at_call 32; refine (likeInts_c A2 A3 c2 c3 C (by omega) _ (by repeat (with_reducible first | exact H2.out | assumption | refine Ints.drew ?_ | refine Ints.drewN _ ?_ | refine Ints.alloc _ ?_ | refine Ints.step (by assumption) ?_)) (by repeat (with_reducible first | exact H3.out | assumption | refine Ints.drew ?_ | refine Ints.drewN _ ?_ | refine Ints.alloc _ ?_ | refine Ints.step (by assumption) ?_))).mono ?_; rintro e w13 ⟨rfl, hb13⟩; have hka := Bel.ka HB.out hb13 (by repeat (with_reducible first | exact Below.refl _ _ | refine Bel.alloc ?_ _ | refine Below.drew ?_ | refine Bel.drewN ?_ _)); (try (replace HP := Lib.hid (Blk.step hb13 (Blk.step hka HP.out)))); (try (replace HP2 := Lib.hid (Blk.step hb13 (Blk.step hka HP2.out)))); (try (replace HQ := Lib.hid (Blk.step hb13 (Blk.step hka HQ.out)))); (try (replace HR := Lib.hid (Blk.step hb13 (Blk.step hka HR.out)))); (try (replace HR2 := Lib.hid (Blk.step hb13 (Blk.step hka HR2.out)))); (try (replace HIm := Lib.hid (Ints.step hb13 (Ints.step hka HIm.out)))); (try (replace HIa := Lib.hid (Ints.step hb13 (Ints.step hka HIa.out)))); (try (replace HIb := Lib.hid (Ints.step hb13 (Ints.step hka HIb.out)))); (try (replace H2 := Lib.hid (Ints.step hb13 (Ints.step hka H2.out)))); replace HB := Lib.hid (Bel.step hb13 (Bel.step hka HB.out)); have hsz13 := hb13.size; have hsy13 := hka.size; (try simp only [World.size_alloc, World.size_drew, World.heap_drewN, World.size_setCell] at hsz13 hsy13); clear hka hb13
  clear H3
  clear hsz1 hsy1 hsz2 hsy2 hsz3 hsy3 hsz4 hsy4 hsz5 hsy5 hsz6 hsy6 hsz7 hsy7 hsz8 hsy8 hsz9 hsy9 hsz10 hsy10 hsz11 hsy11 hsz12 hsy12 hsz13 hsy13
  have cP0 : (w13).cell? ⟨w5.heap.size, 0, none⟩ = some (.int .i64 p0) := by rw [HP.out.cell]; rfl
  have cP1 : (w13).cell? ⟨w5.heap.size, 1, none⟩ = some (.int .i64 p1) := by rw [HP.out.cell]; rfl
  have cP2 : (w13).cell? ⟨w5.heap.size, 2, none⟩ = some (.int .i64 p2) := by rw [HP.out.cell]; rfl
  have cQ0 : (w13).cell? ⟨w6.heap.size, 0, none⟩ = some (.int .i64 p0) := by rw [HP2.out.cell]; rfl
  have cQ1 : (w13).cell? ⟨w6.heap.size, 1, none⟩ = some (.int .i64 p1) := by rw [HP2.out.cell]; rfl
  have cQ2 : (w13).cell? ⟨w6.heap.size, 2, none⟩ = some (.int .i64 p2) := by rw [HP2.out.cell]; rfl
  have cR0 : (w13).cell? ⟨w8.heap.size, 0, none⟩ = some (.int .i64 r0) := by rw [HR.out.cell]; rfl
  have cR1 : (w13).cell? ⟨w8.heap.size, 1, none⟩ = some (.int .i64 r1) := by rw [HR.out.cell]; rfl
  have cS0 : (w13).cell? ⟨w9.heap.size, 0, none⟩ = some (.int .i64 r0) := by rw [HR2.out.cell]; rfl
  have cS1 : (w13).cell? ⟨w9.heap.size, 1, none⟩ = some (.int .i64 r1) := by rw [HR2.out.cell]; rfl
  go_upto_region 17 with (fail)
  clear cP0 cP1 cP2 cQ0 cQ1 cQ2 cR0 cR1 cS0 cS1
  by_cases hr0 : kr = 0
  · obtain ⟨f0, f1⟩ := HRF.out hr0
    have q00 : w13.cell? ⟨w8.heap.size, 0, none⟩ = some (.int .i64 r0) := by rw [HR.out.cell]; rfl
    have q01 : w13.cell? ⟨w8.heap.size, 1, none⟩ = some (.int .i64 r1) := by rw [HR.out.cell]; rfl
    have q10 : w13.cell? ⟨w7.heap.size, 0, none⟩ = some (.int .i64 qx) := by rw [HQ.out.cell]; rfl
    have q11 : w13.cell? ⟨w7.heap.size, 1, none⟩ = some (.int .i64 qy) := by rw [HQ.out.cell]; rfl
    have q12 : w13.cell? ⟨w7.heap.size, 2, none⟩ = some (.int .i64 qz) := by rw [HQ.out.cell]; rfl
    obtain ⟨f0a, f0b, f0c, f0d, f0e, f0f, f0g⟩ := f0
    have Hf0f := Lib.hid f0f
    have Hf0g := Lib.hid f0g
    obtain ⟨f1a, f1b, f1c, f1d, f1e, f1f, f1g⟩ := f1
    have Hf1f := Lib.hid f1f
    have Hf1g := Lib.hid f1g
    have g0f : ¬ qz < 2 * (r0 * qz - qx) := by omega
    have g0g : ¬ qz < 2 * (qx - r0 * qz) := by omega
    have g1f : ¬ qz < 2 * (r1 * qz - qy) := by omega
    have g1g : ¬ qz < 2 * (qy - r1 * qz) := by omega
    subst hr0
    go_upto_region 19 with (fail)
    clear q00 q01 q10 q11 q12 f0a f0b f0c f0d f0e f0f f0g f1a f1b f1c f1d f1e f1f f1g g0f g0g g1f g1g Hf0f Hf0g Hf1f Hf1g
    clear HP2 HQ HR HR2
    by_cases hp0 : kp = 0
    rotate_left
    · have hkb : (kp == 0) = false := by simpa using hp0
      by_cases hf0 : kf = 0
      · subst hf0
        go_wp2
        all_goals (go_ret; exact ⟨rfl, HB.out⟩)
      · have hkf : (kf == 0) = false := by simpa using hf0
        go_wp2
        all_goals (go_ret; exact ⟨rfl, HB.out⟩)
    subst hp0
    by_cases hf0 : kf = 0
    rotate_left
    · have hkf : (kf == 0) = false := by simpa using hf0
      obtain ⟨W, rfl⟩ : ∃ W : World, W = w13 := ⟨_, rfl⟩
      by_cases hc0 : kc = 0
      rotate_left
      · have hkb : (kc == 0) = false := by simpa using hc0
        go_wp2
        all_goals (go_ret; exact ⟨rfl, HB.out⟩)
      go_wp2_with (first | (refine wpList_load_blkG 45 _ _ (Blk.step (Bel.ka0 HB.out (by repeat (with_reducible first | exact Below.refl _ _ | refine Bel.alloc ?_ _ | refine Below.drew ?_ | refine Bel.drewN ?_ _))) HP.out) Try.underlying45 (by kernel_rfl) rfl rfl (by rfl) ?_))
      go_at_call 24; refine (ProjectPoint_I (some ⟨gb, 0, none⟩) qb b (by omega) p0 p1 p2 _ (by repeat (with_reducible first | exact HIb.out | assumption | refine Ints.drew ?_ | refine Ints.drewN _ ?_ | refine Ints.alloc _ ?_ | refine Ints.step (by assumption) ?_))).mono ?_; rintro e w21 ⟨rfl, hb21⟩; have hka := Bel.ka HB.out hb21 (by repeat (with_reducible first | exact Below.refl _ _ | refine Bel.alloc ?_ _ | refine Below.drew ?_ | refine Bel.drewN ?_ _)); (try (replace HP := Lib.hid (Blk.step hb21 (Blk.step hka HP.out)))); (try (replace HIa := Lib.hid (Ints.step hb21 (Ints.step hka HIa.out)))); (try (replace HIb := Lib.hid (Ints.step hb21 (Ints.step hka HIb.out)))); (try (replace H2 := Lib.hid (Ints.step hb21 (Ints.step hka H2.out)))); replace HB := Lib.hid (Bel.step hb21 (Bel.step hka HB.out)); have hsz21 := hb21.size; have hsy21 := hka.size; (try simp only [World.size_alloc, World.size_drew, World.heap_drewN, World.size_setCell] at hsz21 hsy21); clear hka hb21
      obtain ⟨ku, hku⟩ : ∃ k, k = prjC b p0 p1 p2 := ⟨_, rfl⟩
      obtain ⟨u0, hu0⟩ : ∃ k, k = prjV b p0 p1 p2 0 := ⟨_, rfl⟩
      obtain ⟨u1, hu1⟩ : ∃ k, k = prjV b p0 p1 p2 1 := ⟨_, rfl⟩
      obtain ⟨u2, hu2⟩ : ∃ k, k = prjV b p0 p1 p2 2 := ⟨_, rfl⟩
      rw [← hku, ← hu0, ← hu1, ← hu2]
      have HU := Lib.hid (And.intro hku (And.intro hu0 (And.intro hu1 hu2)))
      clear hku hu0 hu1 hu2
      have HUB := Lib.hid (by have h := Blk.new w21 45 #[.int .i64 u0, .int .i64 u1, .int .i64 u2]; (try simp only [World.size_alloc] at h); exact h)
      replace HP := Lib.hid (Blk.alloc (.cells #[.int .i64 u0, .int .i64 u1, .int .i64 u2] 45) HP.out)
      replace HIa := Lib.hid (Ints.alloc (.cells #[.int .i64 u0, .int .i64 u1, .int .i64 u2] 45) HIa.out)
      replace HIb := Lib.hid (Ints.alloc (.cells #[.int .i64 u0, .int .i64 u1, .int .i64 u2] 45) HIb.out)
      replace H2 := Lib.hid (Ints.alloc (.cells #[.int .i64 u0, .int .i64 u1, .int .i64 u2] 45) H2.out)
      replace HB := Lib.hid (Bel.alloc HB.out (.cells #[.int .i64 u0, .int .i64 u1, .int .i64 u2] 45))
      by_cases hu0 : ku = 0
      rotate_left
      · have hkb : (ku == 0) = false := by simpa using hu0
        go_wp2
        all_goals (go_ret; exact ⟨rfl, HB.out⟩)
      go_wp2_with (first | (refine wpList_load_blkG 45 _ _ (Blk.step (Bel.ka0 HB.out (by repeat (with_reducible first | exact Below.refl _ _ | refine Bel.alloc ?_ _ | refine Below.drew ?_ | refine Bel.drewN ?_ _))) HUB.out) Try.underlying45 (by kernel_rfl) rfl rfl (by rfl) ?_))
      go_at_call 24; refine (ProjectPoint_I (some ⟨ga, 0, none⟩) qa a (by omega) u0 u1 u2 _ (by repeat (with_reducible first | exact HIa.out | assumption | refine Ints.drew ?_ | refine Ints.drewN _ ?_ | refine Ints.alloc _ ?_ | refine Ints.step (by assumption) ?_))).mono ?_; rintro e w22 ⟨rfl, hb22⟩; have hka := Bel.ka HB.out hb22 (by repeat (with_reducible first | exact Below.refl _ _ | refine Bel.alloc ?_ _ | refine Below.drew ?_ | refine Bel.drewN ?_ _)); (try (replace HP := Lib.hid (Blk.step hb22 (Blk.step hka HP.out)))); (try (replace HIa := Lib.hid (Ints.step hb22 (Ints.step hka HIa.out)))); (try (replace HIb := Lib.hid (Ints.step hb22 (Ints.step hka HIb.out)))); (try (replace H2 := Lib.hid (Ints.step hb22 (Ints.step hka H2.out)))); replace HB := Lib.hid (Bel.step hb22 (Bel.step hka HB.out)); have hsz22 := hb22.size; have hsy22 := hka.size; (try simp only [World.size_alloc, World.size_drew, World.heap_drewN, World.size_setCell] at hsz22 hsy22); clear hka hb22
      obtain ⟨kv, hkv⟩ : ∃ k, k = prjC a u0 u1 u2 := ⟨_, rfl⟩
      obtain ⟨v0, hv0⟩ : ∃ k, k = prjV a u0 u1 u2 0 := ⟨_, rfl⟩
      obtain ⟨v1, hv1⟩ : ∃ k, k = prjV a u0 u1 u2 1 := ⟨_, rfl⟩
      obtain ⟨v2, hv2⟩ : ∃ k, k = prjV a u0 u1 u2 2 := ⟨_, rfl⟩
      rw [← hkv, ← hv0, ← hv1, ← hv2]
      have HV := Lib.hid (And.intro hkv (And.intro hv0 (And.intro hv1 hv2)))
      clear hkv hv0 hv1 hv2
      have HVB := Lib.hid (by have h := Blk.new w22 45 #[.int .i64 v0, .int .i64 v1, .int .i64 v2]; (try simp only [World.size_alloc] at h); exact h)
      replace HP := Lib.hid (Blk.alloc (.cells #[.int .i64 v0, .int .i64 v1, .int .i64 v2] 45) HP.out)
      replace HIa := Lib.hid (Ints.alloc (.cells #[.int .i64 v0, .int .i64 v1, .int .i64 v2] 45) HIa.out)
      replace HIb := Lib.hid (Ints.alloc (.cells #[.int .i64 v0, .int .i64 v1, .int .i64 v2] 45) HIb.out)
      replace H2 := Lib.hid (Ints.alloc (.cells #[.int .i64 v0, .int .i64 v1, .int .i64 v2] 45) H2.out)
      replace HB := Lib.hid (Bel.alloc HB.out (.cells #[.int .i64 v0, .int .i64 v1, .int .i64 v2] 45))
      go_wp2_with (first | (refine wpList_load_blkG 45 _ _ (Blk.step (Bel.ka0 HB.out (by repeat (with_reducible first | exact Below.refl _ _ | refine Bel.alloc ?_ _ | refine Below.drew ?_ | refine Bel.drewN ?_ _))) HP.out) Try.underlying45 (by kernel_rfl) rfl rfl (by rfl) ?_))
      go_at_call 24; refine (ProjectPoint_I A2 c2 C (by omega) p0 p1 p2 _ (by repeat (with_reducible first | exact H2.out | assumption | refine Ints.drew ?_ | refine Ints.drewN _ ?_ | refine Ints.alloc _ ?_ | refine Ints.step (by assumption) ?_))).mono ?_; rintro e w23 ⟨rfl, hb23⟩; have hka := Bel.ka HB.out hb23 (by repeat (with_reducible first | exact Below.refl _ _ | refine Bel.alloc ?_ _ | refine Below.drew ?_ | refine Bel.drewN ?_ _)); (try (replace HP := Lib.hid (Blk.step hb23 (Blk.step hka HP.out)))); (try (replace HVB := Lib.hid (Blk.step hb23 (Blk.step hka HVB.out)))); replace HB := Lib.hid (Bel.step hb23 (Bel.step hka HB.out)); have hsz23 := hb23.size; have hsy23 := hka.size; (try simp only [World.size_alloc, World.size_drew, World.heap_drewN, World.size_setCell] at hsz23 hsy23); clear hka hb23
      obtain ⟨kz, hkz⟩ : ∃ k, k = prjC C p0 p1 p2 := ⟨_, rfl⟩
      obtain ⟨z0, hz0⟩ : ∃ k, k = prjV C p0 p1 p2 0 := ⟨_, rfl⟩
      obtain ⟨z1, hz1⟩ : ∃ k, k = prjV C p0 p1 p2 1 := ⟨_, rfl⟩
      obtain ⟨z2, hz2⟩ : ∃ k, k = prjV C p0 p1 p2 2 := ⟨_, rfl⟩
      rw [← hkz, ← hz0, ← hz1, ← hz2]
      have HZ := Lib.hid (And.intro hkz (And.intro hz0 (And.intro hz1 hz2)))
      clear hkz hz0 hz1 hz2
      have HZB := Lib.hid (by have h := Blk.new w23 45 #[.int .i64 z0, .int .i64 z1, .int .i64 z2]; (try simp only [World.size_alloc] at h); exact h)
      replace HP := Lib.hid (Blk.alloc (.cells #[.int .i64 z0, .int .i64 z1, .int .i64 z2] 45) HP.out)
      replace HVB := Lib.hid (Blk.alloc (.cells #[.int .i64 z0, .int .i64 z1, .int .i64 z2] 45) HVB.out)
      replace HB := Lib.hid (Bel.alloc HB.out (.cells #[.int .i64 z0, .int .i64 z1, .int .i64 z2] 45))
      by_cases hv0 : kv = 0
      rotate_left
      · have hkb : (kv == 0) = false := by simpa using hv0
        go_wp2
        all_goals (go_ret; exact ⟨rfl, HB.out⟩)
      by_cases hz0 : kz = 0
      rotate_left
      · have hkb : (kz == 0) = false := by simpa using hz0
        go_wp2
        all_goals (go_ret; exact ⟨rfl, HB.out⟩)
      have hfin : v0 = z0 ∧ v1 = z1 ∧ v2 = z2 := by
        have e := HCOM.out p0 p1 p2 hc0 (by rw [← HU.out.1]; exact hu0) (by rw [← HU.out.2.1, ← HU.out.2.2.1, ← HU.out.2.2.2, ← HV.out.1]; exact hv0) (by rw [← HZ.out.1]; exact hz0)
        rw [← HU.out.2.1, ← HU.out.2.2.1, ← HU.out.2.2.2, ← HV.out.2.1, ← HV.out.2.2.1, ← HV.out.2.2.2, ← HZ.out.2.1, ← HZ.out.2.2.1, ← HZ.out.2.2.2] at e
        exact e
      obtain ⟨rfl, rfl, rfl⟩ := hfin
      subst hv0 hz0
      clear HPV HRV HRF HF HCOM HU HV HZ
      have cV0 : (w23.alloc (.cells #[.int .i64 v0, .int .i64 v1, .int .i64 v2] 45)).cell? ⟨w22.heap.size, 0, none⟩ = some (.int .i64 v0) := by rw [HVB.out.cell]; rfl
      have cV1 : (w23.alloc (.cells #[.int .i64 v0, .int .i64 v1, .int .i64 v2] 45)).cell? ⟨w22.heap.size, 1, none⟩ = some (.int .i64 v1) := by rw [HVB.out.cell]; rfl
      have cV2 : (w23.alloc (.cells #[.int .i64 v0, .int .i64 v1, .int .i64 v2] 45)).cell? ⟨w22.heap.size, 2, none⟩ = some (.int .i64 v2) := by rw [HVB.out.cell]; rfl
      have cZ0 : (w23.alloc (.cells #[.int .i64 v0, .int .i64 v1, .int .i64 v2] 45)).cell? ⟨w23.heap.size, 0, none⟩ = some (.int .i64 v0) := by rw [HZB.out.cell]; rfl
      have cZ1 : (w23.alloc (.cells #[.int .i64 v0, .int .i64 v1, .int .i64 v2] 45)).cell? ⟨w23.heap.size, 1, none⟩ = some (.int .i64 v1) := by rw [HZB.out.cell]; rfl
      have cZ2 : (w23.alloc (.cells #[.int .i64 v0, .int .i64 v1, .int .i64 v2] 45)).cell? ⟨w23.heap.size, 2, none⟩ = some (.int .i64 v2) := by rw [HZB.out.cell]; rfl
      go_wp2
      go_ret
      exact ⟨rfl, HB.out⟩
    subst hf0
    cases hbf : bf with
    | false =>
      obtain ⟨W, rfl⟩ : ∃ W : World, W = w13 := ⟨_, rfl⟩
      by_cases hc0 : kc = 0
      rotate_left
      · have hkb : (kc == 0) = false := by simpa using hc0
        go_wp2
        all_goals (go_ret; exact ⟨rfl, HB.out⟩)
      go_wp2_with (first | (refine wpList_load_blkG 45 _ _ (Blk.step (Bel.ka0 HB.out (by repeat (with_reducible first | exact Below.refl _ _ | refine Bel.alloc ?_ _ | refine Below.drew ?_ | refine Bel.drewN ?_ _))) HP.out) Try.underlying45 (by kernel_rfl) rfl rfl (by rfl) ?_))
      go_at_call 24; refine (ProjectPoint_I (some ⟨gb, 0, none⟩) qb b (by omega) p0 p1 p2 _ (by repeat (with_reducible first | exact HIb.out | assumption | refine Ints.drew ?_ | refine Ints.drewN _ ?_ | refine Ints.alloc _ ?_ | refine Ints.step (by assumption) ?_))).mono ?_; rintro e w21 ⟨rfl, hb21⟩; have hka := Bel.ka HB.out hb21 (by repeat (with_reducible first | exact Below.refl _ _ | refine Bel.alloc ?_ _ | refine Below.drew ?_ | refine Bel.drewN ?_ _)); (try (replace HP := Lib.hid (Blk.step hb21 (Blk.step hka HP.out)))); (try (replace HIa := Lib.hid (Ints.step hb21 (Ints.step hka HIa.out)))); (try (replace HIb := Lib.hid (Ints.step hb21 (Ints.step hka HIb.out)))); (try (replace H2 := Lib.hid (Ints.step hb21 (Ints.step hka H2.out)))); replace HB := Lib.hid (Bel.step hb21 (Bel.step hka HB.out)); have hsz21 := hb21.size; have hsy21 := hka.size; (try simp only [World.size_alloc, World.size_drew, World.heap_drewN, World.size_setCell] at hsz21 hsy21); clear hka hb21
      obtain ⟨ku, hku⟩ : ∃ k, k = prjC b p0 p1 p2 := ⟨_, rfl⟩
      obtain ⟨u0, hu0⟩ : ∃ k, k = prjV b p0 p1 p2 0 := ⟨_, rfl⟩
      obtain ⟨u1, hu1⟩ : ∃ k, k = prjV b p0 p1 p2 1 := ⟨_, rfl⟩
      obtain ⟨u2, hu2⟩ : ∃ k, k = prjV b p0 p1 p2 2 := ⟨_, rfl⟩
      rw [← hku, ← hu0, ← hu1, ← hu2]
      have HU := Lib.hid (And.intro hku (And.intro hu0 (And.intro hu1 hu2)))
      clear hku hu0 hu1 hu2
      have HUB := Lib.hid (by have h := Blk.new w21 45 #[.int .i64 u0, .int .i64 u1, .int .i64 u2]; (try simp only [World.size_alloc] at h); exact h)
      replace HP := Lib.hid (Blk.alloc (.cells #[.int .i64 u0, .int .i64 u1, .int .i64 u2] 45) HP.out)
      replace HIa := Lib.hid (Ints.alloc (.cells #[.int .i64 u0, .int .i64 u1, .int .i64 u2] 45) HIa.out)
      replace HIb := Lib.hid (Ints.alloc (.cells #[.int .i64 u0, .int .i64 u1, .int .i64 u2] 45) HIb.out)
      replace H2 := Lib.hid (Ints.alloc (.cells #[.int .i64 u0, .int .i64 u1, .int .i64 u2] 45) H2.out)
      replace HB := Lib.hid (Bel.alloc HB.out (.cells #[.int .i64 u0, .int .i64 u1, .int .i64 u2] 45))
      by_cases hu0 : ku = 0
      rotate_left
      · have hkb : (ku == 0) = false := by simpa using hu0
        go_wp2
        all_goals (go_ret; exact ⟨rfl, HB.out⟩)
      go_wp2_with (first | (refine wpList_load_blkG 45 _ _ (Blk.step (Bel.ka0 HB.out (by repeat (with_reducible first | exact Below.refl _ _ | refine Bel.alloc ?_ _ | refine Below.drew ?_ | refine Bel.drewN ?_ _))) HUB.out) Try.underlying45 (by kernel_rfl) rfl rfl (by rfl) ?_))
      go_at_call 24; refine (ProjectPoint_I (some ⟨ga, 0, none⟩) qa a (by omega) u0 u1 u2 _ (by repeat (with_reducible first | exact HIa.out | assumption | refine Ints.drew ?_ | refine Ints.drewN _ ?_ | refine Ints.alloc _ ?_ | refine Ints.step (by assumption) ?_))).mono ?_; rintro e w22 ⟨rfl, hb22⟩; have hka := Bel.ka HB.out hb22 (by repeat (with_reducible first | exact Below.refl _ _ | refine Bel.alloc ?_ _ | refine Below.drew ?_ | refine Bel.drewN ?_ _)); (try (replace HP := Lib.hid (Blk.step hb22 (Blk.step hka HP.out)))); (try (replace HIa := Lib.hid (Ints.step hb22 (Ints.step hka HIa.out)))); (try (replace HIb := Lib.hid (Ints.step hb22 (Ints.step hka HIb.out)))); (try (replace H2 := Lib.hid (Ints.step hb22 (Ints.step hka H2.out)))); replace HB := Lib.hid (Bel.step hb22 (Bel.step hka HB.out)); have hsz22 := hb22.size; have hsy22 := hka.size; (try simp only [World.size_alloc, World.size_drew, World.heap_drewN, World.size_setCell] at hsz22 hsy22); clear hka hb22
      obtain ⟨kv, hkv⟩ : ∃ k, k = prjC a u0 u1 u2 := ⟨_, rfl⟩
      obtain ⟨v0, hv0⟩ : ∃ k, k = prjV a u0 u1 u2 0 := ⟨_, rfl⟩
      obtain ⟨v1, hv1⟩ : ∃ k, k = prjV a u0 u1 u2 1 := ⟨_, rfl⟩
      obtain ⟨v2, hv2⟩ : ∃ k, k = prjV a u0 u1 u2 2 := ⟨_, rfl⟩
      rw [← hkv, ← hv0, ← hv1, ← hv2]
      have HV := Lib.hid (And.intro hkv (And.intro hv0 (And.intro hv1 hv2)))
      clear hkv hv0 hv1 hv2
      have HVB := Lib.hid (by have h := Blk.new w22 45 #[.int .i64 v0, .int .i64 v1, .int .i64 v2]; (try simp only [World.size_alloc] at h); exact h)
      replace HP := Lib.hid (Blk.alloc (.cells #[.int .i64 v0, .int .i64 v1, .int .i64 v2] 45) HP.out)
      replace HIa := Lib.hid (Ints.alloc (.cells #[.int .i64 v0, .int .i64 v1, .int .i64 v2] 45) HIa.out)
      replace HIb := Lib.hid (Ints.alloc (.cells #[.int .i64 v0, .int .i64 v1, .int .i64 v2] 45) HIb.out)
      replace H2 := Lib.hid (Ints.alloc (.cells #[.int .i64 v0, .int .i64 v1, .int .i64 v2] 45) H2.out)
      replace HB := Lib.hid (Bel.alloc HB.out (.cells #[.int .i64 v0, .int .i64 v1, .int .i64 v2] 45))
      go_wp2_with (first | (refine wpList_load_blkG 45 _ _ (Blk.step (Bel.ka0 HB.out (by repeat (with_reducible first | exact Below.refl _ _ | refine Bel.alloc ?_ _ | refine Below.drew ?_ | refine Bel.drewN ?_ _))) HP.out) Try.underlying45 (by kernel_rfl) rfl rfl (by rfl) ?_))
      go_at_call 24; refine (ProjectPoint_I A2 c2 C (by omega) p0 p1 p2 _ (by repeat (with_reducible first | exact H2.out | assumption | refine Ints.drew ?_ | refine Ints.drewN _ ?_ | refine Ints.alloc _ ?_ | refine Ints.step (by assumption) ?_))).mono ?_; rintro e w23 ⟨rfl, hb23⟩; have hka := Bel.ka HB.out hb23 (by repeat (with_reducible first | exact Below.refl _ _ | refine Bel.alloc ?_ _ | refine Below.drew ?_ | refine Bel.drewN ?_ _)); (try (replace HP := Lib.hid (Blk.step hb23 (Blk.step hka HP.out)))); (try (replace HVB := Lib.hid (Blk.step hb23 (Blk.step hka HVB.out)))); replace HB := Lib.hid (Bel.step hb23 (Bel.step hka HB.out)); have hsz23 := hb23.size; have hsy23 := hka.size; (try simp only [World.size_alloc, World.size_drew, World.heap_drewN, World.size_setCell] at hsz23 hsy23); clear hka hb23
      obtain ⟨kz, hkz⟩ : ∃ k, k = prjC C p0 p1 p2 := ⟨_, rfl⟩
      obtain ⟨z0, hz0⟩ : ∃ k, k = prjV C p0 p1 p2 0 := ⟨_, rfl⟩
      obtain ⟨z1, hz1⟩ : ∃ k, k = prjV C p0 p1 p2 1 := ⟨_, rfl⟩
      obtain ⟨z2, hz2⟩ : ∃ k, k = prjV C p0 p1 p2 2 := ⟨_, rfl⟩
      rw [← hkz, ← hz0, ← hz1, ← hz2]
      have HZ := Lib.hid (And.intro hkz (And.intro hz0 (And.intro hz1 hz2)))
      clear hkz hz0 hz1 hz2
      have HZB := Lib.hid (by have h := Blk.new w23 45 #[.int .i64 z0, .int .i64 z1, .int .i64 z2]; (try simp only [World.size_alloc] at h); exact h)
      replace HP := Lib.hid (Blk.alloc (.cells #[.int .i64 z0, .int .i64 z1, .int .i64 z2] 45) HP.out)
      replace HVB := Lib.hid (Blk.alloc (.cells #[.int .i64 z0, .int .i64 z1, .int .i64 z2] 45) HVB.out)
      replace HB := Lib.hid (Bel.alloc HB.out (.cells #[.int .i64 z0, .int .i64 z1, .int .i64 z2] 45))
      by_cases hv0 : kv = 0
      rotate_left
      · have hkb : (kv == 0) = false := by simpa using hv0
        go_wp2
        all_goals (go_ret; exact ⟨rfl, HB.out⟩)
      by_cases hz0 : kz = 0
      rotate_left
      · have hkb : (kz == 0) = false := by simpa using hz0
        go_wp2
        all_goals (go_ret; exact ⟨rfl, HB.out⟩)
      have hfin : v0 = z0 ∧ v1 = z1 ∧ v2 = z2 := by
        have e := HCOM.out p0 p1 p2 hc0 (by rw [← HU.out.1]; exact hu0) (by rw [← HU.out.2.1, ← HU.out.2.2.1, ← HU.out.2.2.2, ← HV.out.1]; exact hv0) (by rw [← HZ.out.1]; exact hz0)
        rw [← HU.out.2.1, ← HU.out.2.2.1, ← HU.out.2.2.2, ← HV.out.2.1, ← HV.out.2.2.1, ← HV.out.2.2.2, ← HZ.out.2.1, ← HZ.out.2.2.1, ← HZ.out.2.2.2] at e
        exact e
      obtain ⟨rfl, rfl, rfl⟩ := hfin
      subst hv0 hz0
      clear HPV HRV HRF HF HCOM HU HV HZ
      have cV0 : (w23.alloc (.cells #[.int .i64 v0, .int .i64 v1, .int .i64 v2] 45)).cell? ⟨w22.heap.size, 0, none⟩ = some (.int .i64 v0) := by rw [HVB.out.cell]; rfl
      have cV1 : (w23.alloc (.cells #[.int .i64 v0, .int .i64 v1, .int .i64 v2] 45)).cell? ⟨w22.heap.size, 1, none⟩ = some (.int .i64 v1) := by rw [HVB.out.cell]; rfl
      have cV2 : (w23.alloc (.cells #[.int .i64 v0, .int .i64 v1, .int .i64 v2] 45)).cell? ⟨w22.heap.size, 2, none⟩ = some (.int .i64 v2) := by rw [HVB.out.cell]; rfl
      have cZ0 : (w23.alloc (.cells #[.int .i64 v0, .int .i64 v1, .int .i64 v2] 45)).cell? ⟨w23.heap.size, 0, none⟩ = some (.int .i64 v0) := by rw [HZB.out.cell]; rfl
      have cZ1 : (w23.alloc (.cells #[.int .i64 v0, .int .i64 v1, .int .i64 v2] 45)).cell? ⟨w23.heap.size, 1, none⟩ = some (.int .i64 v1) := by rw [HZB.out.cell]; rfl
      have cZ2 : (w23.alloc (.cells #[.int .i64 v0, .int .i64 v1, .int .i64 v2] 45)).cell? ⟨w23.heap.size, 2, none⟩ = some (.int .i64 v2) := by rw [HZB.out.cell]; rfl
      go_wp2
      go_ret
      exact ⟨rfl, HB.out⟩
    | true =>
      go_wp2_with (first | (refine wpList_load_blkG 45 _ _ (Blk.step (Bel.ka0 HB.out (by repeat (with_reducible first | exact Below.refl _ _ | refine Bel.alloc ?_ _ | refine Below.drew ?_ | refine Bel.drewN ?_ _))) HP.out) Try.underlying45 (by kernel_rfl) rfl rfl (by rfl) ?_))
      go_at_call 24; refine (ProjectPoint_I (some ⟨gm, 0, none⟩) qm m (by omega) p0 p1 p2 _ (by repeat (with_reducible first | exact HIm.out | assumption | refine Ints.drew ?_ | refine Ints.drewN _ ?_ | refine Ints.alloc _ ?_ | refine Ints.step (by assumption) ?_))).mono ?_; rintro e w14 ⟨rfl, hb14⟩; have hka := Bel.ka HB.out hb14 (by repeat (with_reducible first | exact Below.refl _ _ | refine Bel.alloc ?_ _ | refine Below.drew ?_ | refine Bel.drewN ?_ _)); (try (replace HP := Lib.hid (Blk.step hb14 (Blk.step hka HP.out)))); (try (replace HIa := Lib.hid (Ints.step hb14 (Ints.step hka HIa.out)))); (try (replace HIb := Lib.hid (Ints.step hb14 (Ints.step hka HIb.out)))); (try (replace H2 := Lib.hid (Ints.step hb14 (Ints.step hka H2.out)))); replace HB := Lib.hid (Bel.step hb14 (Bel.step hka HB.out)); have hsz14 := hb14.size; have hsy14 := hka.size; (try simp only [World.size_alloc, World.size_drew, World.heap_drewN, World.size_setCell] at hsz14 hsy14); clear hka hb14
      have hfx := fun h => fix_img (m := m) (x := p0) (y := p1) (z := p2) (by rw [← HF.out.2]; exact hbf) h
      have HFX := Lib.hid hfx
      clear hfx
      generalize prjC m p0 p1 p2 = ks at *
      generalize prjV m p0 p1 p2 0 = s0 at *
      generalize prjV m p0 p1 p2 1 = s1 at *
      generalize prjV m p0 p1 p2 2 = s2 at *
      have HSB := Lib.hid (by have h := Blk.new w14 45 #[.int .i64 s0, .int .i64 s1, .int .i64 s2]; (try simp only [World.size_alloc] at h); exact h)
      replace HP := Lib.hid (Blk.alloc (.cells #[.int .i64 s0, .int .i64 s1, .int .i64 s2] 45) HP.out)
      replace HIa := Lib.hid (Ints.alloc (.cells #[.int .i64 s0, .int .i64 s1, .int .i64 s2] 45) HIa.out)
      replace HIb := Lib.hid (Ints.alloc (.cells #[.int .i64 s0, .int .i64 s1, .int .i64 s2] 45) HIb.out)
      replace H2 := Lib.hid (Ints.alloc (.cells #[.int .i64 s0, .int .i64 s1, .int .i64 s2] 45) H2.out)
      replace HB := Lib.hid (Bel.alloc HB.out (.cells #[.int .i64 s0, .int .i64 s1, .int .i64 s2] 45))
      by_cases hs0 : ks = 0
      · obtain ⟨e0, e1, e2⟩ := HFX.out hs0
        subst hs0 e0 e1 e2
        have cS0 : (w14.alloc (.cells #[.int .i64 s0, .int .i64 s1, .int .i64 s2] 45)).cell? ⟨w14.heap.size, 0, none⟩ = some (.int .i64 s0) := by rw [HSB.out.cell]; rfl
        have cS1 : (w14.alloc (.cells #[.int .i64 s0, .int .i64 s1, .int .i64 s2] 45)).cell? ⟨w14.heap.size, 1, none⟩ = some (.int .i64 s1) := by rw [HSB.out.cell]; rfl
        have cS2 : (w14.alloc (.cells #[.int .i64 s0, .int .i64 s1, .int .i64 s2] 45)).cell? ⟨w14.heap.size, 2, none⟩ = some (.int .i64 s2) := by rw [HSB.out.cell]; rfl
        have cP0 : (w14.alloc (.cells #[.int .i64 s0, .int .i64 s1, .int .i64 s2] 45)).cell? ⟨w5.heap.size, 0, none⟩ = some (.int .i64 s0) := by rw [HP.out.cell]; rfl
        have cP1 : (w14.alloc (.cells #[.int .i64 s0, .int .i64 s1, .int .i64 s2] 45)).cell? ⟨w5.heap.size, 1, none⟩ = some (.int .i64 s1) := by rw [HP.out.cell]; rfl
        have cP2 : (w14.alloc (.cells #[.int .i64 s0, .int .i64 s1, .int .i64 s2] 45)).cell? ⟨w5.heap.size, 2, none⟩ = some (.int .i64 s2) := by rw [HP.out.cell]; rfl
        go_upto_region 23 with (fail)
        clear cS0 cS1 cS2 cP0 cP1 cP2
        generalize w14.alloc (.cells #[.int .i64 s0, .int .i64 s1, .int .i64 s2] 45) = W at HP HIa HIb H2 HSB HB ⊢
        by_cases hc0 : kc = 0
        rotate_left
        · have hkb : (kc == 0) = false := by simpa using hc0
          go_wp2
          all_goals (go_ret; exact ⟨rfl, HB.out⟩)
        go_wp2_with (first | (refine wpList_load_blkG 45 _ _ (Blk.step (Bel.ka0 HB.out (by repeat (with_reducible first | exact Below.refl _ _ | refine Bel.alloc ?_ _ | refine Below.drew ?_ | refine Bel.drewN ?_ _))) HP.out) Try.underlying45 (by kernel_rfl) rfl rfl (by rfl) ?_))
        go_at_call 24; refine (ProjectPoint_I (some ⟨gb, 0, none⟩) qb b (by omega) s0 s1 s2 _ (by repeat (with_reducible first | exact HIb.out | assumption | refine Ints.drew ?_ | refine Ints.drewN _ ?_ | refine Ints.alloc _ ?_ | refine Ints.step (by assumption) ?_))).mono ?_; rintro e w21 ⟨rfl, hb21⟩; have hka := Bel.ka HB.out hb21 (by repeat (with_reducible first | exact Below.refl _ _ | refine Bel.alloc ?_ _ | refine Below.drew ?_ | refine Bel.drewN ?_ _)); (try (replace HP := Lib.hid (Blk.step hb21 (Blk.step hka HP.out)))); (try (replace HIa := Lib.hid (Ints.step hb21 (Ints.step hka HIa.out)))); (try (replace HIb := Lib.hid (Ints.step hb21 (Ints.step hka HIb.out)))); (try (replace H2 := Lib.hid (Ints.step hb21 (Ints.step hka H2.out)))); replace HB := Lib.hid (Bel.step hb21 (Bel.step hka HB.out)); have hsz21 := hb21.size; have hsy21 := hka.size; (try simp only [World.size_alloc, World.size_drew, World.heap_drewN, World.size_setCell] at hsz21 hsy21); clear hka hb21
        obtain ⟨ku, hku⟩ : ∃ k, k = prjC b s0 s1 s2 := ⟨_, rfl⟩
        obtain ⟨u0, hu0⟩ : ∃ k, k = prjV b s0 s1 s2 0 := ⟨_, rfl⟩
        obtain ⟨u1, hu1⟩ : ∃ k, k = prjV b s0 s1 s2 1 := ⟨_, rfl⟩
        obtain ⟨u2, hu2⟩ : ∃ k, k = prjV b s0 s1 s2 2 := ⟨_, rfl⟩
        rw [← hku, ← hu0, ← hu1, ← hu2]
        have HU := Lib.hid (And.intro hku (And.intro hu0 (And.intro hu1 hu2)))
        clear hku hu0 hu1 hu2
        have HUB := Lib.hid (by have h := Blk.new w21 45 #[.int .i64 u0, .int .i64 u1, .int .i64 u2]; (try simp only [World.size_alloc] at h); exact h)
        replace HP := Lib.hid (Blk.alloc (.cells #[.int .i64 u0, .int .i64 u1, .int .i64 u2] 45) HP.out)
        replace HIa := Lib.hid (Ints.alloc (.cells #[.int .i64 u0, .int .i64 u1, .int .i64 u2] 45) HIa.out)
        replace HIb := Lib.hid (Ints.alloc (.cells #[.int .i64 u0, .int .i64 u1, .int .i64 u2] 45) HIb.out)
        replace H2 := Lib.hid (Ints.alloc (.cells #[.int .i64 u0, .int .i64 u1, .int .i64 u2] 45) H2.out)
        replace HB := Lib.hid (Bel.alloc HB.out (.cells #[.int .i64 u0, .int .i64 u1, .int .i64 u2] 45))
        by_cases hu0 : ku = 0
        rotate_left
        · have hkb : (ku == 0) = false := by simpa using hu0
          go_wp2
          all_goals (go_ret; exact ⟨rfl, HB.out⟩)
        go_wp2_with (first | (refine wpList_load_blkG 45 _ _ (Blk.step (Bel.ka0 HB.out (by repeat (with_reducible first | exact Below.refl _ _ | refine Bel.alloc ?_ _ | refine Below.drew ?_ | refine Bel.drewN ?_ _))) HUB.out) Try.underlying45 (by kernel_rfl) rfl rfl (by rfl) ?_))
        go_at_call 24; refine (ProjectPoint_I (some ⟨ga, 0, none⟩) qa a (by omega) u0 u1 u2 _ (by repeat (with_reducible first | exact HIa.out | assumption | refine Ints.drew ?_ | refine Ints.drewN _ ?_ | refine Ints.alloc _ ?_ | refine Ints.step (by assumption) ?_))).mono ?_; rintro e w22 ⟨rfl, hb22⟩; have hka := Bel.ka HB.out hb22 (by repeat (with_reducible first | exact Below.refl _ _ | refine Bel.alloc ?_ _ | refine Below.drew ?_ | refine Bel.drewN ?_ _)); (try (replace HP := Lib.hid (Blk.step hb22 (Blk.step hka HP.out)))); (try (replace HIa := Lib.hid (Ints.step hb22 (Ints.step hka HIa.out)))); (try (replace HIb := Lib.hid (Ints.step hb22 (Ints.step hka HIb.out)))); (try (replace H2 := Lib.hid (Ints.step hb22 (Ints.step hka H2.out)))); replace HB := Lib.hid (Bel.step hb22 (Bel.step hka HB.out)); have hsz22 := hb22.size; have hsy22 := hka.size; (try simp only [World.size_alloc, World.size_drew, World.heap_drewN, World.size_setCell] at hsz22 hsy22); clear hka hb22
        obtain ⟨kv, hkv⟩ : ∃ k, k = prjC a u0 u1 u2 := ⟨_, rfl⟩
        obtain ⟨v0, hv0⟩ : ∃ k, k = prjV a u0 u1 u2 0 := ⟨_, rfl⟩
        obtain ⟨v1, hv1⟩ : ∃ k, k = prjV a u0 u1 u2 1 := ⟨_, rfl⟩
        obtain ⟨v2, hv2⟩ : ∃ k, k = prjV a u0 u1 u2 2 := ⟨_, rfl⟩
        rw [← hkv, ← hv0, ← hv1, ← hv2]
        have HV := Lib.hid (And.intro hkv (And.intro hv0 (And.intro hv1 hv2)))
        clear hkv hv0 hv1 hv2
        have HVB := Lib.hid (by have h := Blk.new w22 45 #[.int .i64 v0, .int .i64 v1, .int .i64 v2]; (try simp only [World.size_alloc] at h); exact h)
        replace HP := Lib.hid (Blk.alloc (.cells #[.int .i64 v0, .int .i64 v1, .int .i64 v2] 45) HP.out)
        replace HIa := Lib.hid (Ints.alloc (.cells #[.int .i64 v0, .int .i64 v1, .int .i64 v2] 45) HIa.out)
        replace HIb := Lib.hid (Ints.alloc (.cells #[.int .i64 v0, .int .i64 v1, .int .i64 v2] 45) HIb.out)
        replace H2 := Lib.hid (Ints.alloc (.cells #[.int .i64 v0, .int .i64 v1, .int .i64 v2] 45) H2.out)
        replace HB := Lib.hid (Bel.alloc HB.out (.cells #[.int .i64 v0, .int .i64 v1, .int .i64 v2] 45))
        go_wp2_with (first | (refine wpList_load_blkG 45 _ _ (Blk.step (Bel.ka0 HB.out (by repeat (with_reducible first | exact Below.refl _ _ | refine Bel.alloc ?_ _ | refine Below.drew ?_ | refine Bel.drewN ?_ _))) HP.out) Try.underlying45 (by kernel_rfl) rfl rfl (by rfl) ?_))
        go_at_call 24; refine (ProjectPoint_I A2 c2 C (by omega) s0 s1 s2 _ (by repeat (with_reducible first | exact H2.out | assumption | refine Ints.drew ?_ | refine Ints.drewN _ ?_ | refine Ints.alloc _ ?_ | refine Ints.step (by assumption) ?_))).mono ?_; rintro e w23 ⟨rfl, hb23⟩; have hka := Bel.ka HB.out hb23 (by repeat (with_reducible first | exact Below.refl _ _ | refine Bel.alloc ?_ _ | refine Below.drew ?_ | refine Bel.drewN ?_ _)); (try (replace HP := Lib.hid (Blk.step hb23 (Blk.step hka HP.out)))); (try (replace HVB := Lib.hid (Blk.step hb23 (Blk.step hka HVB.out)))); replace HB := Lib.hid (Bel.step hb23 (Bel.step hka HB.out)); have hsz23 := hb23.size; have hsy23 := hka.size; (try simp only [World.size_alloc, World.size_drew, World.heap_drewN, World.size_setCell] at hsz23 hsy23); clear hka hb23
        obtain ⟨kz, hkz⟩ : ∃ k, k = prjC C s0 s1 s2 := ⟨_, rfl⟩
        obtain ⟨z0, hz0⟩ : ∃ k, k = prjV C s0 s1 s2 0 := ⟨_, rfl⟩
        obtain ⟨z1, hz1⟩ : ∃ k, k = prjV C s0 s1 s2 1 := ⟨_, rfl⟩
        obtain ⟨z2, hz2⟩ : ∃ k, k = prjV C s0 s1 s2 2 := ⟨_, rfl⟩
        rw [← hkz, ← hz0, ← hz1, ← hz2]
        have HZ := Lib.hid (And.intro hkz (And.intro hz0 (And.intro hz1 hz2)))
        clear hkz hz0 hz1 hz2
        have HZB := Lib.hid (by have h := Blk.new w23 45 #[.int .i64 z0, .int .i64 z1, .int .i64 z2]; (try simp only [World.size_alloc] at h); exact h)
        replace HP := Lib.hid (Blk.alloc (.cells #[.int .i64 z0, .int .i64 z1, .int .i64 z2] 45) HP.out)
        replace HVB := Lib.hid (Blk.alloc (.cells #[.int .i64 z0, .int .i64 z1, .int .i64 z2] 45) HVB.out)
        replace HB := Lib.hid (Bel.alloc HB.out (.cells #[.int .i64 z0, .int .i64 z1, .int .i64 z2] 45))
        by_cases hv0 : kv = 0
        rotate_left
        · have hkb : (kv == 0) = false := by simpa using hv0
          go_wp2
          all_goals (go_ret; exact ⟨rfl, HB.out⟩)
        by_cases hz0 : kz = 0
        rotate_left
        · have hkb : (kz == 0) = false := by simpa using hz0
          go_wp2
          all_goals (go_ret; exact ⟨rfl, HB.out⟩)
        have hfin : v0 = z0 ∧ v1 = z1 ∧ v2 = z2 := by
          have e := HCOM.out s0 s1 s2 hc0 (by rw [← HU.out.1]; exact hu0) (by rw [← HU.out.2.1, ← HU.out.2.2.1, ← HU.out.2.2.2, ← HV.out.1]; exact hv0) (by rw [← HZ.out.1]; exact hz0)
          rw [← HU.out.2.1, ← HU.out.2.2.1, ← HU.out.2.2.2, ← HV.out.2.1, ← HV.out.2.2.1, ← HV.out.2.2.2, ← HZ.out.2.1, ← HZ.out.2.2.1, ← HZ.out.2.2.2] at e
          exact e
        obtain ⟨rfl, rfl, rfl⟩ := hfin
        subst hv0 hz0
        clear HPV HRV HRF HF HCOM HU HV HZ
        have cV0 : (w23.alloc (.cells #[.int .i64 v0, .int .i64 v1, .int .i64 v2] 45)).cell? ⟨w22.heap.size, 0, none⟩ = some (.int .i64 v0) := by rw [HVB.out.cell]; rfl
        have cV1 : (w23.alloc (.cells #[.int .i64 v0, .int .i64 v1, .int .i64 v2] 45)).cell? ⟨w22.heap.size, 1, none⟩ = some (.int .i64 v1) := by rw [HVB.out.cell]; rfl
        have cV2 : (w23.alloc (.cells #[.int .i64 v0, .int .i64 v1, .int .i64 v2] 45)).cell? ⟨w22.heap.size, 2, none⟩ = some (.int .i64 v2) := by rw [HVB.out.cell]; rfl
        have cZ0 : (w23.alloc (.cells #[.int .i64 v0, .int .i64 v1, .int .i64 v2] 45)).cell? ⟨w23.heap.size, 0, none⟩ = some (.int .i64 v0) := by rw [HZB.out.cell]; rfl
        have cZ1 : (w23.alloc (.cells #[.int .i64 v0, .int .i64 v1, .int .i64 v2] 45)).cell? ⟨w23.heap.size, 1, none⟩ = some (.int .i64 v1) := by rw [HZB.out.cell]; rfl
        have cZ2 : (w23.alloc (.cells #[.int .i64 v0, .int .i64 v1, .int .i64 v2] 45)).cell? ⟨w23.heap.size, 2, none⟩ = some (.int .i64 v2) := by rw [HZB.out.cell]; rfl
        go_wp2
        go_ret
        exact ⟨rfl, HB.out⟩
      have hkb0 : (ks == 0) = false := by simpa using hs0
      go_upto_region 23 with (fail)
      generalize w14.alloc (.cells #[.int .i64 s0, .int .i64 s1, .int .i64 s2] 45) = W at HP HIa HIb H2 HSB HB ⊢
      by_cases hc0 : kc = 0
      rotate_left
      · have hkb : (kc == 0) = false := by simpa using hc0
        go_wp2
        all_goals (go_ret; exact ⟨rfl, HB.out⟩)
      go_wp2_with (first | (refine wpList_load_blkG 45 _ _ (Blk.step (Bel.ka0 HB.out (by repeat (with_reducible first | exact Below.refl _ _ | refine Bel.alloc ?_ _ | refine Below.drew ?_ | refine Bel.drewN ?_ _))) HP.out) Try.underlying45 (by kernel_rfl) rfl rfl (by rfl) ?_))
      go_at_call 24; refine (ProjectPoint_I (some ⟨gb, 0, none⟩) qb b (by omega) p0 p1 p2 _ (by repeat (with_reducible first | exact HIb.out | assumption | refine Ints.drew ?_ | refine Ints.drewN _ ?_ | refine Ints.alloc _ ?_ | refine Ints.step (by assumption) ?_))).mono ?_; rintro e w21 ⟨rfl, hb21⟩; have hka := Bel.ka HB.out hb21 (by repeat (with_reducible first | exact Below.refl _ _ | refine Bel.alloc ?_ _ | refine Below.drew ?_ | refine Bel.drewN ?_ _)); (try (replace HP := Lib.hid (Blk.step hb21 (Blk.step hka HP.out)))); (try (replace HIa := Lib.hid (Ints.step hb21 (Ints.step hka HIa.out)))); (try (replace HIb := Lib.hid (Ints.step hb21 (Ints.step hka HIb.out)))); (try (replace H2 := Lib.hid (Ints.step hb21 (Ints.step hka H2.out)))); replace HB := Lib.hid (Bel.step hb21 (Bel.step hka HB.out)); have hsz21 := hb21.size; have hsy21 := hka.size; (try simp only [World.size_alloc, World.size_drew, World.heap_drewN, World.size_setCell] at hsz21 hsy21); clear hka hb21
      obtain ⟨ku, hku⟩ : ∃ k, k = prjC b p0 p1 p2 := ⟨_, rfl⟩
      obtain ⟨u0, hu0⟩ : ∃ k, k = prjV b p0 p1 p2 0 := ⟨_, rfl⟩
      obtain ⟨u1, hu1⟩ : ∃ k, k = prjV b p0 p1 p2 1 := ⟨_, rfl⟩
      obtain ⟨u2, hu2⟩ : ∃ k, k = prjV b p0 p1 p2 2 := ⟨_, rfl⟩
      rw [← hku, ← hu0, ← hu1, ← hu2]
      have HU := Lib.hid (And.intro hku (And.intro hu0 (And.intro hu1 hu2)))
      clear hku hu0 hu1 hu2
      have HUB := Lib.hid (by have h := Blk.new w21 45 #[.int .i64 u0, .int .i64 u1, .int .i64 u2]; (try simp only [World.size_alloc] at h); exact h)
      replace HP := Lib.hid (Blk.alloc (.cells #[.int .i64 u0, .int .i64 u1, .int .i64 u2] 45) HP.out)
      replace HIa := Lib.hid (Ints.alloc (.cells #[.int .i64 u0, .int .i64 u1, .int .i64 u2] 45) HIa.out)
      replace HIb := Lib.hid (Ints.alloc (.cells #[.int .i64 u0, .int .i64 u1, .int .i64 u2] 45) HIb.out)
      replace H2 := Lib.hid (Ints.alloc (.cells #[.int .i64 u0, .int .i64 u1, .int .i64 u2] 45) H2.out)
      replace HB := Lib.hid (Bel.alloc HB.out (.cells #[.int .i64 u0, .int .i64 u1, .int .i64 u2] 45))
      by_cases hu0 : ku = 0
      rotate_left
      · have hkb : (ku == 0) = false := by simpa using hu0
        go_wp2
        all_goals (go_ret; exact ⟨rfl, HB.out⟩)
      go_wp2_with (first | (refine wpList_load_blkG 45 _ _ (Blk.step (Bel.ka0 HB.out (by repeat (with_reducible first | exact Below.refl _ _ | refine Bel.alloc ?_ _ | refine Below.drew ?_ | refine Bel.drewN ?_ _))) HUB.out) Try.underlying45 (by kernel_rfl) rfl rfl (by rfl) ?_))
      go_at_call 24; refine (ProjectPoint_I (some ⟨ga, 0, none⟩) qa a (by omega) u0 u1 u2 _ (by repeat (with_reducible first | exact HIa.out | assumption | refine Ints.drew ?_ | refine Ints.drewN _ ?_ | refine Ints.alloc _ ?_ | refine Ints.step (by assumption) ?_))).mono ?_; rintro e w22 ⟨rfl, hb22⟩; have hka := Bel.ka HB.out hb22 (by repeat (with_reducible first | exact Below.refl _ _ | refine Bel.alloc ?_ _ | refine Below.drew ?_ | refine Bel.drewN ?_ _)); (try (replace HP := Lib.hid (Blk.step hb22 (Blk.step hka HP.out)))); (try (replace HIa := Lib.hid (Ints.step hb22 (Ints.step hka HIa.out)))); (try (replace HIb := Lib.hid (Ints.step hb22 (Ints.step hka HIb.out)))); (try (replace H2 := Lib.hid (Ints.step hb22 (Ints.step hka H2.out)))); replace HB := Lib.hid (Bel.step hb22 (Bel.step hka HB.out)); have hsz22 := hb22.size; have hsy22 := hka.size; (try simp only [World.size_alloc, World.size_drew, World.heap_drewN, World.size_setCell] at hsz22 hsy22); clear hka hb22
      obtain ⟨kv, hkv⟩ : ∃ k, k = prjC a u0 u1 u2 := ⟨_, rfl⟩
      obtain ⟨v0, hv0⟩ : ∃ k, k = prjV a u0 u1 u2 0 := ⟨_, rfl⟩
      obtain ⟨v1, hv1⟩ : ∃ k, k = prjV a u0 u1 u2 1 := ⟨_, rfl⟩
      obtain ⟨v2, hv2⟩ : ∃ k, k = prjV a u0 u1 u2 2 := ⟨_, rfl⟩
      rw [← hkv, ← hv0, ← hv1, ← hv2]
      have HV := Lib.hid (And.intro hkv (And.intro hv0 (And.intro hv1 hv2)))
      clear hkv hv0 hv1 hv2
      have HVB := Lib.hid (by have h := Blk.new w22 45 #[.int .i64 v0, .int .i64 v1, .int .i64 v2]; (try simp only [World.size_alloc] at h); exact h)
      replace HP := Lib.hid (Blk.alloc (.cells #[.int .i64 v0, .int .i64 v1, .int .i64 v2] 45) HP.out)
      replace HIa := Lib.hid (Ints.alloc (.cells #[.int .i64 v0, .int .i64 v1, .int .i64 v2] 45) HIa.out)
      replace HIb := Lib.hid (Ints.alloc (.cells #[.int .i64 v0, .int .i64 v1, .int .i64 v2] 45) HIb.out)
      replace H2 := Lib.hid (Ints.alloc (.cells #[.int .i64 v0, .int .i64 v1, .int .i64 v2] 45) H2.out)
      replace HB := Lib.hid (Bel.alloc HB.out (.cells #[.int .i64 v0, .int .i64 v1, .int .i64 v2] 45))
      go_wp2_with (first | (refine wpList_load_blkG 45 _ _ (Blk.step (Bel.ka0 HB.out (by repeat (with_reducible first | exact Below.refl _ _ | refine Bel.alloc ?_ _ | refine Below.drew ?_ | refine Bel.drewN ?_ _))) HP.out) Try.underlying45 (by kernel_rfl) rfl rfl (by rfl) ?_))
      go_at_call 24; refine (ProjectPoint_I A2 c2 C (by omega) p0 p1 p2 _ (by repeat (with_reducible first | exact H2.out | assumption | refine Ints.drew ?_ | refine Ints.drewN _ ?_ | refine Ints.alloc _ ?_ | refine Ints.step (by assumption) ?_))).mono ?_; rintro e w23 ⟨rfl, hb23⟩; have hka := Bel.ka HB.out hb23 (by repeat (with_reducible first | exact Below.refl _ _ | refine Bel.alloc ?_ _ | refine Below.drew ?_ | refine Bel.drewN ?_ _)); (try (replace HP := Lib.hid (Blk.step hb23 (Blk.step hka HP.out)))); (try (replace HVB := Lib.hid (Blk.step hb23 (Blk.step hka HVB.out)))); replace HB := Lib.hid (Bel.step hb23 (Bel.step hka HB.out)); have hsz23 := hb23.size; have hsy23 := hka.size; (try simp only [World.size_alloc, World.size_drew, World.heap_drewN, World.size_setCell] at hsz23 hsy23); clear hka hb23
      obtain ⟨kz, hkz⟩ : ∃ k, k = prjC C p0 p1 p2 := ⟨_, rfl⟩
      obtain ⟨z0, hz0⟩ : ∃ k, k = prjV C p0 p1 p2 0 := ⟨_, rfl⟩
      obtain ⟨z1, hz1⟩ : ∃ k, k = prjV C p0 p1 p2 1 := ⟨_, rfl⟩
      obtain ⟨z2, hz2⟩ : ∃ k, k = prjV C p0 p1 p2 2 := ⟨_, rfl⟩
      rw [← hkz, ← hz0, ← hz1, ← hz2]
      have HZ := Lib.hid (And.intro hkz (And.intro hz0 (And.intro hz1 hz2)))
      clear hkz hz0 hz1 hz2
      have HZB := Lib.hid (by have h := Blk.new w23 45 #[.int .i64 z0, .int .i64 z1, .int .i64 z2]; (try simp only [World.size_alloc] at h); exact h)
      replace HP := Lib.hid (Blk.alloc (.cells #[.int .i64 z0, .int .i64 z1, .int .i64 z2] 45) HP.out)
      replace HVB := Lib.hid (Blk.alloc (.cells #[.int .i64 z0, .int .i64 z1, .int .i64 z2] 45) HVB.out)
      replace HB := Lib.hid (Bel.alloc HB.out (.cells #[.int .i64 z0, .int .i64 z1, .int .i64 z2] 45))
      by_cases hv0 : kv = 0
      rotate_left
      · have hkb : (kv == 0) = false := by simpa using hv0
        go_wp2
        all_goals (go_ret; exact ⟨rfl, HB.out⟩)
      by_cases hz0 : kz = 0
      rotate_left
      · have hkb : (kz == 0) = false := by simpa using hz0
        go_wp2
        all_goals (go_ret; exact ⟨rfl, HB.out⟩)
      have hfin : v0 = z0 ∧ v1 = z1 ∧ v2 = z2 := by
        have e := HCOM.out p0 p1 p2 hc0 (by rw [← HU.out.1]; exact hu0) (by rw [← HU.out.2.1, ← HU.out.2.2.1, ← HU.out.2.2.2, ← HV.out.1]; exact hv0) (by rw [← HZ.out.1]; exact hz0)
        rw [← HU.out.2.1, ← HU.out.2.2.1, ← HU.out.2.2.2, ← HV.out.2.1, ← HV.out.2.2.1, ← HV.out.2.2.2, ← HZ.out.2.1, ← HZ.out.2.2.1, ← HZ.out.2.2.2] at e
        exact e
      obtain ⟨rfl, rfl, rfl⟩ := hfin
      subst hv0 hz0
      clear HPV HRV HRF HF HCOM HU HV HZ
      have cV0 : (w23.alloc (.cells #[.int .i64 v0, .int .i64 v1, .int .i64 v2] 45)).cell? ⟨w22.heap.size, 0, none⟩ = some (.int .i64 v0) := by rw [HVB.out.cell]; rfl
      have cV1 : (w23.alloc (.cells #[.int .i64 v0, .int .i64 v1, .int .i64 v2] 45)).cell? ⟨w22.heap.size, 1, none⟩ = some (.int .i64 v1) := by rw [HVB.out.cell]; rfl
      have cV2 : (w23.alloc (.cells #[.int .i64 v0, .int .i64 v1, .int .i64 v2] 45)).cell? ⟨w22.heap.size, 2, none⟩ = some (.int .i64 v2) := by rw [HVB.out.cell]; rfl
      have cZ0 : (w23.alloc (.cells #[.int .i64 v0, .int .i64 v1, .int .i64 v2] 45)).cell? ⟨w23.heap.size, 0, none⟩ = some (.int .i64 v0) := by rw [HZB.out.cell]; rfl
      have cZ1 : (w23.alloc (.cells #[.int .i64 v0, .int .i64 v1, .int .i64 v2] 45)).cell? ⟨w23.heap.size, 1, none⟩ = some (.int .i64 v1) := by rw [HZB.out.cell]; rfl
      have cZ2 : (w23.alloc (.cells #[.int .i64 v0, .int .i64 v1, .int .i64 v2] 45)).cell? ⟨w23.heap.size, 2, none⟩ = some (.int .i64 v2) := by rw [HZB.out.cell]; rfl
      go_wp2
      go_ret
      exact ⟨rfl, HB.out⟩
  · have hkb : (kr == 0) = false := by simpa using hr0
    go_upto_region 19 with (fail)
    clear HP2 HQ HR HR2
    by_cases hp0 : kp = 0
    rotate_left
    · have hkb : (kp == 0) = false := by simpa using hp0
      by_cases hf0 : kf = 0
      · subst hf0
        go_wp2
        all_goals (go_ret; exact ⟨rfl, HB.out⟩)
      · have hkf : (kf == 0) = false := by simpa using hf0
        go_wp2
        all_goals (go_ret; exact ⟨rfl, HB.out⟩)
    subst hp0
    by_cases hf0 : kf = 0
    rotate_left
    · have hkf : (kf == 0) = false := by simpa using hf0
      obtain ⟨W, rfl⟩ : ∃ W : World, W = w13 := ⟨_, rfl⟩
      by_cases hc0 : kc = 0
      rotate_left
      · have hkb : (kc == 0) = false := by simpa using hc0
        go_wp2
        all_goals (go_ret; exact ⟨rfl, HB.out⟩)
      go_wp2_with (first | (refine wpList_load_blkG 45 _ _ (Blk.step (Bel.ka0 HB.out (by repeat (with_reducible first | exact Below.refl _ _ | refine Bel.alloc ?_ _ | refine Below.drew ?_ | refine Bel.drewN ?_ _))) HP.out) Try.underlying45 (by kernel_rfl) rfl rfl (by rfl) ?_))
      go_at_call 24; refine (ProjectPoint_I (some ⟨gb, 0, none⟩) qb b (by omega) p0 p1 p2 _ (by repeat (with_reducible first | exact HIb.out | assumption | refine Ints.drew ?_ | refine Ints.drewN _ ?_ | refine Ints.alloc _ ?_ | refine Ints.step (by assumption) ?_))).mono ?_; rintro e w21 ⟨rfl, hb21⟩; have hka := Bel.ka HB.out hb21 (by repeat (with_reducible first | exact Below.refl _ _ | refine Bel.alloc ?_ _ | refine Below.drew ?_ | refine Bel.drewN ?_ _)); (try (replace HP := Lib.hid (Blk.step hb21 (Blk.step hka HP.out)))); (try (replace HIa := Lib.hid (Ints.step hb21 (Ints.step hka HIa.out)))); (try (replace HIb := Lib.hid (Ints.step hb21 (Ints.step hka HIb.out)))); (try (replace H2 := Lib.hid (Ints.step hb21 (Ints.step hka H2.out)))); replace HB := Lib.hid (Bel.step hb21 (Bel.step hka HB.out)); have hsz21 := hb21.size; have hsy21 := hka.size; (try simp only [World.size_alloc, World.size_drew, World.heap_drewN, World.size_setCell] at hsz21 hsy21); clear hka hb21
      obtain ⟨ku, hku⟩ : ∃ k, k = prjC b p0 p1 p2 := ⟨_, rfl⟩
      obtain ⟨u0, hu0⟩ : ∃ k, k = prjV b p0 p1 p2 0 := ⟨_, rfl⟩
      obtain ⟨u1, hu1⟩ : ∃ k, k = prjV b p0 p1 p2 1 := ⟨_, rfl⟩
      obtain ⟨u2, hu2⟩ : ∃ k, k = prjV b p0 p1 p2 2 := ⟨_, rfl⟩
      rw [← hku, ← hu0, ← hu1, ← hu2]
      have HU := Lib.hid (And.intro hku (And.intro hu0 (And.intro hu1 hu2)))
      clear hku hu0 hu1 hu2
      have HUB := Lib.hid (by have h := Blk.new w21 45 #[.int .i64 u0, .int .i64 u1, .int .i64 u2]; (try simp only [World.size_alloc] at h); exact h)
      replace HP := Lib.hid (Blk.alloc (.cells #[.int .i64 u0, .int .i64 u1, .int .i64 u2] 45) HP.out)
      replace HIa := Lib.hid (Ints.alloc (.cells #[.int .i64 u0, .int .i64 u1, .int .i64 u2] 45) HIa.out)
      replace HIb := Lib.hid (Ints.alloc (.cells #[.int .i64 u0, .int .i64 u1, .int .i64 u2] 45) HIb.out)
      replace H2 := Lib.hid (Ints.alloc (.cells #[.int .i64 u0, .int .i64 u1, .int .i64 u2] 45) H2.out)
      replace HB := Lib.hid (Bel.alloc HB.out (.cells #[.int .i64 u0, .int .i64 u1, .int .i64 u2] 45))
      by_cases hu0 : ku = 0
      rotate_left
      · have hkb : (ku == 0) = false := by simpa using hu0
        go_wp2
        all_goals (go_ret; exact ⟨rfl, HB.out⟩)
      go_wp2_with (first | (refine wpList_load_blkG 45 _ _ (Blk.step (Bel.ka0 HB.out (by repeat (with_reducible first | exact Below.refl _ _ | refine Bel.alloc ?_ _ | refine Below.drew ?_ | refine Bel.drewN ?_ _))) HUB.out) Try.underlying45 (by kernel_rfl) rfl rfl (by rfl) ?_))
      go_at_call 24; refine (ProjectPoint_I (some ⟨ga, 0, none⟩) qa a (by omega) u0 u1 u2 _ (by repeat (with_reducible first | exact HIa.out | assumption | refine Ints.drew ?_ | refine Ints.drewN _ ?_ | refine Ints.alloc _ ?_ | refine Ints.step (by assumption) ?_))).mono ?_; rintro e w22 ⟨rfl, hb22⟩; have hka := Bel.ka HB.out hb22 (by repeat (with_reducible first | exact Below.refl _ _ | refine Bel.alloc ?_ _ | refine Below.drew ?_ | refine Bel.drewN ?_ _)); (try (replace HP := Lib.hid (Blk.step hb22 (Blk.step hka HP.out)))); (try (replace HIa := Lib.hid (Ints.step hb22 (Ints.step hka HIa.out)))); (try (replace HIb := Lib.hid (Ints.step hb22 (Ints.step hka HIb.out)))); (try (replace H2 := Lib.hid (Ints.step hb22 (Ints.step hka H2.out)))); replace HB := Lib.hid (Bel.step hb22 (Bel.step hka HB.out)); have hsz22 := hb22.size; have hsy22 := hka.size; (try simp only [World.size_alloc, World.size_drew, World.heap_drewN, World.size_setCell] at hsz22 hsy22); clear hka hb22
      obtain ⟨kv, hkv⟩ : ∃ k, k = prjC a u0 u1 u2 := ⟨_, rfl⟩
      obtain ⟨v0, hv0⟩ : ∃ k, k = prjV a u0 u1 u2 0 := ⟨_, rfl⟩
      obtain ⟨v1, hv1⟩ : ∃ k, k = prjV a u0 u1 u2 1 := ⟨_, rfl⟩
      obtain ⟨v2, hv2⟩ : ∃ k, k = prjV a u0 u1 u2 2 := ⟨_, rfl⟩
      rw [← hkv, ← hv0, ← hv1, ← hv2]
      have HV := Lib.hid (And.intro hkv (And.intro hv0 (And.intro hv1 hv2)))
      clear hkv hv0 hv1 hv2
      have HVB := Lib.hid (by have h := Blk.new w22 45 #[.int .i64 v0, .int .i64 v1, .int .i64 v2]; (try simp only [World.size_alloc] at h); exact h)
      replace HP := Lib.hid (Blk.alloc (.cells #[.int .i64 v0, .int .i64 v1, .int .i64 v2] 45) HP.out)
      replace HIa := Lib.hid (Ints.alloc (.cells #[.int .i64 v0, .int .i64 v1, .int .i64 v2] 45) HIa.out)
      replace HIb := Lib.hid (Ints.alloc (.cells #[.int .i64 v0, .int .i64 v1, .int .i64 v2] 45) HIb.out)
      replace H2 := Lib.hid (Ints.alloc (.cells #[.int .i64 v0, .int .i64 v1, .int .i64 v2] 45) H2.out)
      replace HB := Lib.hid (Bel.alloc HB.out (.cells #[.int .i64 v0, .int .i64 v1, .int .i64 v2] 45))
      go_wp2_with (first | (refine wpList_load_blkG 45 _ _ (Blk.step (Bel.ka0 HB.out (by repeat (with_reducible first | exact Below.refl _ _ | refine Bel.alloc ?_ _ | refine Below.drew ?_ | refine Bel.drewN ?_ _))) HP.out) Try.underlying45 (by kernel_rfl) rfl rfl (by rfl) ?_))
      go_at_call 24; refine (ProjectPoint_I A2 c2 C (by omega) p0 p1 p2 _ (by repeat (with_reducible first | exact H2.out | assumption | refine Ints.drew ?_ | refine Ints.drewN _ ?_ | refine Ints.alloc _ ?_ | refine Ints.step (by assumption) ?_))).mono ?_; rintro e w23 ⟨rfl, hb23⟩; have hka := Bel.ka HB.out hb23 (by repeat (with_reducible first | exact Below.refl _ _ | refine Bel.alloc ?_ _ | refine Below.drew ?_ | refine Bel.drewN ?_ _)); (try (replace HP := Lib.hid (Blk.step hb23 (Blk.step hka HP.out)))); (try (replace HVB := Lib.hid (Blk.step hb23 (Blk.step hka HVB.out)))); replace HB := Lib.hid (Bel.step hb23 (Bel.step hka HB.out)); have hsz23 := hb23.size; have hsy23 := hka.size; (try simp only [World.size_alloc, World.size_drew, World.heap_drewN, World.size_setCell] at hsz23 hsy23); clear hka hb23
      obtain ⟨kz, hkz⟩ : ∃ k, k = prjC C p0 p1 p2 := ⟨_, rfl⟩
      obtain ⟨z0, hz0⟩ : ∃ k, k = prjV C p0 p1 p2 0 := ⟨_, rfl⟩
      obtain ⟨z1, hz1⟩ : ∃ k, k = prjV C p0 p1 p2 1 := ⟨_, rfl⟩
      obtain ⟨z2, hz2⟩ : ∃ k, k = prjV C p0 p1 p2 2 := ⟨_, rfl⟩
      rw [← hkz, ← hz0, ← hz1, ← hz2]
      have HZ := Lib.hid (And.intro hkz (And.intro hz0 (And.intro hz1 hz2)))
      clear hkz hz0 hz1 hz2
      have HZB := Lib.hid (by have h := Blk.new w23 45 #[.int .i64 z0, .int .i64 z1, .int .i64 z2]; (try simp only [World.size_alloc] at h); exact h)
      replace HP := Lib.hid (Blk.alloc (.cells #[.int .i64 z0, .int .i64 z1, .int .i64 z2] 45) HP.out)
      replace HVB := Lib.hid (Blk.alloc (.cells #[.int .i64 z0, .int .i64 z1, .int .i64 z2] 45) HVB.out)
      replace HB := Lib.hid (Bel.alloc HB.out (.cells #[.int .i64 z0, .int .i64 z1, .int .i64 z2] 45))
      by_cases hv0 : kv = 0
      rotate_left
      · have hkb : (kv == 0) = false := by simpa using hv0
        go_wp2
        all_goals (go_ret; exact ⟨rfl, HB.out⟩)
      by_cases hz0 : kz = 0
      rotate_left
      · have hkb : (kz == 0) = false := by simpa using hz0
        go_wp2
        all_goals (go_ret; exact ⟨rfl, HB.out⟩)
      have hfin : v0 = z0 ∧ v1 = z1 ∧ v2 = z2 := by
        have e := HCOM.out p0 p1 p2 hc0 (by rw [← HU.out.1]; exact hu0) (by rw [← HU.out.2.1, ← HU.out.2.2.1, ← HU.out.2.2.2, ← HV.out.1]; exact hv0) (by rw [← HZ.out.1]; exact hz0)
        rw [← HU.out.2.1, ← HU.out.2.2.1, ← HU.out.2.2.2, ← HV.out.2.1, ← HV.out.2.2.1, ← HV.out.2.2.2, ← HZ.out.2.1, ← HZ.out.2.2.1, ← HZ.out.2.2.2] at e
        exact e
      obtain ⟨rfl, rfl, rfl⟩ := hfin
      subst hv0 hz0
      clear HPV HRV HRF HF HCOM HU HV HZ
      have cV0 : (w23.alloc (.cells #[.int .i64 v0, .int .i64 v1, .int .i64 v2] 45)).cell? ⟨w22.heap.size, 0, none⟩ = some (.int .i64 v0) := by rw [HVB.out.cell]; rfl
      have cV1 : (w23.alloc (.cells #[.int .i64 v0, .int .i64 v1, .int .i64 v2] 45)).cell? ⟨w22.heap.size, 1, none⟩ = some (.int .i64 v1) := by rw [HVB.out.cell]; rfl
      have cV2 : (w23.alloc (.cells #[.int .i64 v0, .int .i64 v1, .int .i64 v2] 45)).cell? ⟨w22.heap.size, 2, none⟩ = some (.int .i64 v2) := by rw [HVB.out.cell]; rfl
      have cZ0 : (w23.alloc (.cells #[.int .i64 v0, .int .i64 v1, .int .i64 v2] 45)).cell? ⟨w23.heap.size, 0, none⟩ = some (.int .i64 v0) := by rw [HZB.out.cell]; rfl
      have cZ1 : (w23.alloc (.cells #[.int .i64 v0, .int .i64 v1, .int .i64 v2] 45)).cell? ⟨w23.heap.size, 1, none⟩ = some (.int .i64 v1) := by rw [HZB.out.cell]; rfl
      have cZ2 : (w23.alloc (.cells #[.int .i64 v0, .int .i64 v1, .int .i64 v2] 45)).cell? ⟨w23.heap.size, 2, none⟩ = some (.int .i64 v2) := by rw [HZB.out.cell]; rfl
      go_wp2
      go_ret
      exact ⟨rfl, HB.out⟩
    subst hf0
    cases hbf : bf with
    | false =>
      obtain ⟨W, rfl⟩ : ∃ W : World, W = w13 := ⟨_, rfl⟩
      by_cases hc0 : kc = 0
      rotate_left
      · have hkb : (kc == 0) = false := by simpa using hc0
        go_wp2
        all_goals (go_ret; exact ⟨rfl, HB.out⟩)
      go_wp2_with (first | (refine wpList_load_blkG 45 _ _ (Blk.step (Bel.ka0 HB.out (by repeat (with_reducible first | exact Below.refl _ _ | refine Bel.alloc ?_ _ | refine Below.drew ?_ | refine Bel.drewN ?_ _))) HP.out) Try.underlying45 (by kernel_rfl) rfl rfl (by rfl) ?_))
      go_at_call 24; refine (ProjectPoint_I (some ⟨gb, 0, none⟩) qb b (by omega) p0 p1 p2 _ (by repeat (with_reducible first | exact HIb.out | assumption | refine Ints.drew ?_ | refine Ints.drewN _ ?_ | refine Ints.alloc _ ?_ | refine Ints.step (by assumption) ?_))).mono ?_; rintro e w21 ⟨rfl, hb21⟩; have hka := Bel.ka HB.out hb21 (by repeat (with_reducible first | exact Below.refl _ _ | refine Bel.alloc ?_ _ | refine Below.drew ?_ | refine Bel.drewN ?_ _)); (try (replace HP := Lib.hid (Blk.step hb21 (Blk.step hka HP.out)))); (try (replace HIa := Lib.hid (Ints.step hb21 (Ints.step hka HIa.out)))); (try (replace HIb := Lib.hid (Ints.step hb21 (Ints.step hka HIb.out)))); (try (replace H2 := Lib.hid (Ints.step hb21 (Ints.step hka H2.out)))); replace HB := Lib.hid (Bel.step hb21 (Bel.step hka HB.out)); have hsz21 := hb21.size; have hsy21 := hka.size; (try simp only [World.size_alloc, World.size_drew, World.heap_drewN, World.size_setCell] at hsz21 hsy21); clear hka hb21
      obtain ⟨ku, hku⟩ : ∃ k, k = prjC b p0 p1 p2 := ⟨_, rfl⟩
      obtain ⟨u0, hu0⟩ : ∃ k, k = prjV b p0 p1 p2 0 := ⟨_, rfl⟩
      obtain ⟨u1, hu1⟩ : ∃ k, k = prjV b p0 p1 p2 1 := ⟨_, rfl⟩
      obtain ⟨u2, hu2⟩ : ∃ k, k = prjV b p0 p1 p2 2 := ⟨_, rfl⟩
      rw [← hku, ← hu0, ← hu1, ← hu2]
      have HU := Lib.hid (And.intro hku (And.intro hu0 (And.intro hu1 hu2)))
      clear hku hu0 hu1 hu2
      have HUB := Lib.hid (by have h := Blk.new w21 45 #[.int .i64 u0, .int .i64 u1, .int .i64 u2]; (try simp only [World.size_alloc] at h); exact h)
      replace HP := Lib.hid (Blk.alloc (.cells #[.int .i64 u0, .int .i64 u1, .int .i64 u2] 45) HP.out)
      replace HIa := Lib.hid (Ints.alloc (.cells #[.int .i64 u0, .int .i64 u1, .int .i64 u2] 45) HIa.out)
      replace HIb := Lib.hid (Ints.alloc (.cells #[.int .i64 u0, .int .i64 u1, .int .i64 u2] 45) HIb.out)
      replace H2 := Lib.hid (Ints.alloc (.cells #[.int .i64 u0, .int .i64 u1, .int .i64 u2] 45) H2.out)
      replace HB := Lib.hid (Bel.alloc HB.out (.cells #[.int .i64 u0, .int .i64 u1, .int .i64 u2] 45))
      by_cases hu0 : ku = 0
      rotate_left
      · have hkb : (ku == 0) = false := by simpa using hu0
        go_wp2
        all_goals (go_ret; exact ⟨rfl, HB.out⟩)
      go_wp2_with (first | (refine wpList_load_blkG 45 _ _ (Blk.step (Bel.ka0 HB.out (by repeat (with_reducible first | exact Below.refl _ _ | refine Bel.alloc ?_ _ | refine Below.drew ?_ | refine Bel.drewN ?_ _))) HUB.out) Try.underlying45 (by kernel_rfl) rfl rfl (by rfl) ?_))
      go_at_call 24; refine (ProjectPoint_I (some ⟨ga, 0, none⟩) qa a (by omega) u0 u1 u2 _ (by repeat (with_reducible first | exact HIa.out | assumption | refine Ints.drew ?_ | refine Ints.drewN _ ?_ | refine Ints.alloc _ ?_ | refine Ints.step (by assumption) ?_))).mono ?_; rintro e w22 ⟨rfl, hb22⟩; have hka := Bel.ka HB.out hb22 (by repeat (with_reducible first | exact Below.refl _ _ | refine Bel.alloc ?_ _ | refine Below.drew ?_ | refine Bel.drewN ?_ _)); (try (replace HP := Lib.hid (Blk.step hb22 (Blk.step hka HP.out)))); (try (replace HIa := Lib.hid (Ints.step hb22 (Ints.step hka HIa.out)))); (try (replace HIb := Lib.hid (Ints.step hb22 (Ints.step hka HIb.out)))); (try (replace H2 := Lib.hid (Ints.step hb22 (Ints.step hka H2.out)))); replace HB := Lib.hid (Bel.step hb22 (Bel.step hka HB.out)); have hsz22 := hb22.size; have hsy22 := hka.size; (try simp only [World.size_alloc, World.size_drew, World.heap_drewN, World.size_setCell] at hsz22 hsy22); clear hka hb22
      obtain ⟨kv, hkv⟩ : ∃ k, k = prjC a u0 u1 u2 := ⟨_, rfl⟩
      obtain ⟨v0, hv0⟩ : ∃ k, k = prjV a u0 u1 u2 0 := ⟨_, rfl⟩
      obtain ⟨v1, hv1⟩ : ∃ k, k = prjV a u0 u1 u2 1 := ⟨_, rfl⟩
      obtain ⟨v2, hv2⟩ : ∃ k, k = prjV a u0 u1 u2 2 := ⟨_, rfl⟩
      rw [← hkv, ← hv0, ← hv1, ← hv2]
      have HV := Lib.hid (And.intro hkv (And.intro hv0 (And.intro hv1 hv2)))
      clear hkv hv0 hv1 hv2
      have HVB := Lib.hid (by have h := Blk.new w22 45 #[.int .i64 v0, .int .i64 v1, .int .i64 v2]; (try simp only [World.size_alloc] at h); exact h)
      replace HP := Lib.hid (Blk.alloc (.cells #[.int .i64 v0, .int .i64 v1, .int .i64 v2] 45) HP.out)
      replace HIa := Lib.hid (Ints.alloc (.cells #[.int .i64 v0, .int .i64 v1, .int .i64 v2] 45) HIa.out)
      replace HIb := Lib.hid (Ints.alloc (.cells #[.int .i64 v0, .int .i64 v1, .int .i64 v2] 45) HIb.out)
      replace H2 := Lib.hid (Ints.alloc (.cells #[.int .i64 v0, .int .i64 v1, .int .i64 v2] 45) H2.out)
      replace HB := Lib.hid (Bel.alloc HB.out (.cells #[.int .i64 v0, .int .i64 v1, .int .i64 v2] 45))
      go_wp2_with (first | (refine wpList_load_blkG 45 _ _ (Blk.step (Bel.ka0 HB.out (by repeat (with_reducible first | exact Below.refl _ _ | refine Bel.alloc ?_ _ | refine Below.drew ?_ | refine Bel.drewN ?_ _))) HP.out) Try.underlying45 (by kernel_rfl) rfl rfl (by rfl) ?_))
      go_at_call 24; refine (ProjectPoint_I A2 c2 C (by omega) p0 p1 p2 _ (by repeat (with_reducible first | exact H2.out | assumption | refine Ints.drew ?_ | refine Ints.drewN _ ?_ | refine Ints.alloc _ ?_ | refine Ints.step (by assumption) ?_))).mono ?_; rintro e w23 ⟨rfl, hb23⟩; have hka := Bel.ka HB.out hb23 (by repeat (with_reducible first | exact Below.refl _ _ | refine Bel.alloc ?_ _ | refine Below.drew ?_ | refine Bel.drewN ?_ _)); (try (replace HP := Lib.hid (Blk.step hb23 (Blk.step hka HP.out)))); (try (replace HVB := Lib.hid (Blk.step hb23 (Blk.step hka HVB.out)))); replace HB := Lib.hid (Bel.step hb23 (Bel.step hka HB.out)); have hsz23 := hb23.size; have hsy23 := hka.size; (try simp only [World.size_alloc, World.size_drew, World.heap_drewN, World.size_setCell] at hsz23 hsy23); clear hka hb23
      obtain ⟨kz, hkz⟩ : ∃ k, k = prjC C p0 p1 p2 := ⟨_, rfl⟩
      obtain ⟨z0, hz0⟩ : ∃ k, k = prjV C p0 p1 p2 0 := ⟨_, rfl⟩
      obtain ⟨z1, hz1⟩ : ∃ k, k = prjV C p0 p1 p2 1 := ⟨_, rfl⟩
      obtain ⟨z2, hz2⟩ : ∃ k, k = prjV C p0 p1 p2 2 := ⟨_, rfl⟩
      rw [← hkz, ← hz0, ← hz1, ← hz2]
      have HZ := Lib.hid (And.intro hkz (And.intro hz0 (And.intro hz1 hz2)))
      clear hkz hz0 hz1 hz2
      have HZB := Lib.hid (by have h := Blk.new w23 45 #[.int .i64 z0, .int .i64 z1, .int .i64 z2]; (try simp only [World.size_alloc] at h); exact h)
      replace HP := Lib.hid (Blk.alloc (.cells #[.int .i64 z0, .int .i64 z1, .int .i64 z2] 45) HP.out)
      replace HVB := Lib.hid (Blk.alloc (.cells #[.int .i64 z0, .int .i64 z1, .int .i64 z2] 45) HVB.out)
      replace HB := Lib.hid (Bel.alloc HB.out (.cells #[.int .i64 z0, .int .i64 z1, .int .i64 z2] 45))
      by_cases hv0 : kv = 0
      rotate_left
      · have hkb : (kv == 0) = false := by simpa using hv0
        go_wp2
        all_goals (go_ret; exact ⟨rfl, HB.out⟩)
      by_cases hz0 : kz = 0
      rotate_left
      · have hkb : (kz == 0) = false := by simpa using hz0
        go_wp2
        all_goals (go_ret; exact ⟨rfl, HB.out⟩)
      have hfin : v0 = z0 ∧ v1 = z1 ∧ v2 = z2 := by
        have e := HCOM.out p0 p1 p2 hc0 (by rw [← HU.out.1]; exact hu0) (by rw [← HU.out.2.1, ← HU.out.2.2.1, ← HU.out.2.2.2, ← HV.out.1]; exact hv0) (by rw [← HZ.out.1]; exact hz0)
        rw [← HU.out.2.1, ← HU.out.2.2.1, ← HU.out.2.2.2, ← HV.out.2.1, ← HV.out.2.2.1, ← HV.out.2.2.2, ← HZ.out.2.1, ← HZ.out.2.2.1, ← HZ.out.2.2.2] at e
        exact e
      obtain ⟨rfl, rfl, rfl⟩ := hfin
      subst hv0 hz0
      clear HPV HRV HRF HF HCOM HU HV HZ
      have cV0 : (w23.alloc (.cells #[.int .i64 v0, .int .i64 v1, .int .i64 v2] 45)).cell? ⟨w22.heap.size, 0, none⟩ = some (.int .i64 v0) := by rw [HVB.out.cell]; rfl
      have cV1 : (w23.alloc (.cells #[.int .i64 v0, .int .i64 v1, .int .i64 v2] 45)).cell? ⟨w22.heap.size, 1, none⟩ = some (.int .i64 v1) := by rw [HVB.out.cell]; rfl
      have cV2 : (w23.alloc (.cells #[.int .i64 v0, .int .i64 v1, .int .i64 v2] 45)).cell? ⟨w22.heap.size, 2, none⟩ = some (.int .i64 v2) := by rw [HVB.out.cell]; rfl
      have cZ0 : (w23.alloc (.cells #[.int .i64 v0, .int .i64 v1, .int .i64 v2] 45)).cell? ⟨w23.heap.size, 0, none⟩ = some (.int .i64 v0) := by rw [HZB.out.cell]; rfl
      have cZ1 : (w23.alloc (.cells #[.int .i64 v0, .int .i64 v1, .int .i64 v2] 45)).cell? ⟨w23.heap.size, 1, none⟩ = some (.int .i64 v1) := by rw [HZB.out.cell]; rfl
      have cZ2 : (w23.alloc (.cells #[.int .i64 v0, .int .i64 v1, .int .i64 v2] 45)).cell? ⟨w23.heap.size, 2, none⟩ = some (.int .i64 v2) := by rw [HZB.out.cell]; rfl
      go_wp2
      go_ret
      exact ⟨rfl, HB.out⟩
    | true =>
      go_wp2_with (first | (refine wpList_load_blkG 45 _ _ (Blk.step (Bel.ka0 HB.out (by repeat (with_reducible first | exact Below.refl _ _ | refine Bel.alloc ?_ _ | refine Below.drew ?_ | refine Bel.drewN ?_ _))) HP.out) Try.underlying45 (by kernel_rfl) rfl rfl (by rfl) ?_))
      go_at_call 24; refine (ProjectPoint_I (some ⟨gm, 0, none⟩) qm m (by omega) p0 p1 p2 _ (by repeat (with_reducible first | exact HIm.out | assumption | refine Ints.drew ?_ | refine Ints.drewN _ ?_ | refine Ints.alloc _ ?_ | refine Ints.step (by assumption) ?_))).mono ?_; rintro e w14 ⟨rfl, hb14⟩; have hka := Bel.ka HB.out hb14 (by repeat (with_reducible first | exact Below.refl _ _ | refine Bel.alloc ?_ _ | refine Below.drew ?_ | refine Bel.drewN ?_ _)); (try (replace HP := Lib.hid (Blk.step hb14 (Blk.step hka HP.out)))); (try (replace HIa := Lib.hid (Ints.step hb14 (Ints.step hka HIa.out)))); (try (replace HIb := Lib.hid (Ints.step hb14 (Ints.step hka HIb.out)))); (try (replace H2 := Lib.hid (Ints.step hb14 (Ints.step hka H2.out)))); replace HB := Lib.hid (Bel.step hb14 (Bel.step hka HB.out)); have hsz14 := hb14.size; have hsy14 := hka.size; (try simp only [World.size_alloc, World.size_drew, World.heap_drewN, World.size_setCell] at hsz14 hsy14); clear hka hb14
      have hfx := fun h => fix_img (m := m) (x := p0) (y := p1) (z := p2) (by rw [← HF.out.2]; exact hbf) h
      have HFX := Lib.hid hfx
      clear hfx
      generalize prjC m p0 p1 p2 = ks at *
      generalize prjV m p0 p1 p2 0 = s0 at *
      generalize prjV m p0 p1 p2 1 = s1 at *
      generalize prjV m p0 p1 p2 2 = s2 at *
      have HSB := Lib.hid (by have h := Blk.new w14 45 #[.int .i64 s0, .int .i64 s1, .int .i64 s2]; (try simp only [World.size_alloc] at h); exact h)
      replace HP := Lib.hid (Blk.alloc (.cells #[.int .i64 s0, .int .i64 s1, .int .i64 s2] 45) HP.out)
      replace HIa := Lib.hid (Ints.alloc (.cells #[.int .i64 s0, .int .i64 s1, .int .i64 s2] 45) HIa.out)
      replace HIb := Lib.hid (Ints.alloc (.cells #[.int .i64 s0, .int .i64 s1, .int .i64 s2] 45) HIb.out)
      replace H2 := Lib.hid (Ints.alloc (.cells #[.int .i64 s0, .int .i64 s1, .int .i64 s2] 45) H2.out)
      replace HB := Lib.hid (Bel.alloc HB.out (.cells #[.int .i64 s0, .int .i64 s1, .int .i64 s2] 45))
      by_cases hs0 : ks = 0
      · obtain ⟨e0, e1, e2⟩ := HFX.out hs0
        subst hs0 e0 e1 e2
        have cS0 : (w14.alloc (.cells #[.int .i64 s0, .int .i64 s1, .int .i64 s2] 45)).cell? ⟨w14.heap.size, 0, none⟩ = some (.int .i64 s0) := by rw [HSB.out.cell]; rfl
        have cS1 : (w14.alloc (.cells #[.int .i64 s0, .int .i64 s1, .int .i64 s2] 45)).cell? ⟨w14.heap.size, 1, none⟩ = some (.int .i64 s1) := by rw [HSB.out.cell]; rfl
        have cS2 : (w14.alloc (.cells #[.int .i64 s0, .int .i64 s1, .int .i64 s2] 45)).cell? ⟨w14.heap.size, 2, none⟩ = some (.int .i64 s2) := by rw [HSB.out.cell]; rfl
        have cP0 : (w14.alloc (.cells #[.int .i64 s0, .int .i64 s1, .int .i64 s2] 45)).cell? ⟨w5.heap.size, 0, none⟩ = some (.int .i64 s0) := by rw [HP.out.cell]; rfl
        have cP1 : (w14.alloc (.cells #[.int .i64 s0, .int .i64 s1, .int .i64 s2] 45)).cell? ⟨w5.heap.size, 1, none⟩ = some (.int .i64 s1) := by rw [HP.out.cell]; rfl
        have cP2 : (w14.alloc (.cells #[.int .i64 s0, .int .i64 s1, .int .i64 s2] 45)).cell? ⟨w5.heap.size, 2, none⟩ = some (.int .i64 s2) := by rw [HP.out.cell]; rfl
        go_upto_region 23 with (fail)
        clear cS0 cS1 cS2 cP0 cP1 cP2
        generalize w14.alloc (.cells #[.int .i64 s0, .int .i64 s1, .int .i64 s2] 45) = W at HP HIa HIb H2 HSB HB ⊢
        by_cases hc0 : kc = 0
        rotate_left
        · have hkb : (kc == 0) = false := by simpa using hc0
          go_wp2
          all_goals (go_ret; exact ⟨rfl, HB.out⟩)
        go_wp2_with (first | (refine wpList_load_blkG 45 _ _ (Blk.step (Bel.ka0 HB.out (by repeat (with_reducible first | exact Below.refl _ _ | refine Bel.alloc ?_ _ | refine Below.drew ?_ | refine Bel.drewN ?_ _))) HP.out) Try.underlying45 (by kernel_rfl) rfl rfl (by rfl) ?_))
        go_at_call 24; refine (ProjectPoint_I (some ⟨gb, 0, none⟩) qb b (by omega) s0 s1 s2 _ (by repeat (with_reducible first | exact HIb.out | assumption | refine Ints.drew ?_ | refine Ints.drewN _ ?_ | refine Ints.alloc _ ?_ | refine Ints.step (by assumption) ?_))).mono ?_; rintro e w21 ⟨rfl, hb21⟩; have hka := Bel.ka HB.out hb21 (by repeat (with_reducible first | exact Below.refl _ _ | refine Bel.alloc ?_ _ | refine Below.drew ?_ | refine Bel.drewN ?_ _)); (try (replace HP := Lib.hid (Blk.step hb21 (Blk.step hka HP.out)))); (try (replace HIa := Lib.hid (Ints.step hb21 (Ints.step hka HIa.out)))); (try (replace HIb := Lib.hid (Ints.step hb21 (Ints.step hka HIb.out)))); (try (replace H2 := Lib.hid (Ints.step hb21 (Ints.step hka H2.out)))); replace HB := Lib.hid (Bel.step hb21 (Bel.step hka HB.out)); have hsz21 := hb21.size; have hsy21 := hka.size; (try simp only [World.size_alloc, World.size_drew, World.heap_drewN, World.size_setCell] at hsz21 hsy21); clear hka hb21
        obtain ⟨ku, hku⟩ : ∃ k, k = prjC b s0 s1 s2 := ⟨_, rfl⟩
        obtain ⟨u0, hu0⟩ : ∃ k, k = prjV b s0 s1 s2 0 := ⟨_, rfl⟩
        obtain ⟨u1, hu1⟩ : ∃ k, k = prjV b s0 s1 s2 1 := ⟨_, rfl⟩
        obtain ⟨u2, hu2⟩ : ∃ k, k = prjV b s0 s1 s2 2 := ⟨_, rfl⟩
        rw [← hku, ← hu0, ← hu1, ← hu2]
        have HU := Lib.hid (And.intro hku (And.intro hu0 (And.intro hu1 hu2)))
        clear hku hu0 hu1 hu2
        have HUB := Lib.hid (by have h := Blk.new w21 45 #[.int .i64 u0, .int .i64 u1, .int .i64 u2]; (try simp only [World.size_alloc] at h); exact h)
        replace HP := Lib.hid (Blk.alloc (.cells #[.int .i64 u0, .int .i64 u1, .int .i64 u2] 45) HP.out)
        replace HIa := Lib.hid (Ints.alloc (.cells #[.int .i64 u0, .int .i64 u1, .int .i64 u2] 45) HIa.out)
        replace HIb := Lib.hid (Ints.alloc (.cells #[.int .i64 u0, .int .i64 u1, .int .i64 u2] 45) HIb.out)
        replace H2 := Lib.hid (Ints.alloc (.cells #[.int .i64 u0, .int .i64 u1, .int .i64 u2] 45) H2.out)
        replace HB := Lib.hid (Bel.alloc HB.out (.cells #[.int .i64 u0, .int .i64 u1, .int .i64 u2] 45))
        by_cases hu0 : ku = 0
        rotate_left
        · have hkb : (ku == 0) = false := by simpa using hu0
          go_wp2
          all_goals (go_ret; exact ⟨rfl, HB.out⟩)
        go_wp2_with (first | (refine wpList_load_blkG 45 _ _ (Blk.step (Bel.ka0 HB.out (by repeat (with_reducible first | exact Below.refl _ _ | refine Bel.alloc ?_ _ | refine Below.drew ?_ | refine Bel.drewN ?_ _))) HUB.out) Try.underlying45 (by kernel_rfl) rfl rfl (by rfl) ?_))
        go_at_call 24; refine (ProjectPoint_I (some ⟨ga, 0, none⟩) qa a (by omega) u0 u1 u2 _ (by repeat (with_reducible first | exact HIa.out | assumption | refine Ints.drew ?_ | refine Ints.drewN _ ?_ | refine Ints.alloc _ ?_ | refine Ints.step (by assumption) ?_))).mono ?_; rintro e w22 ⟨rfl, hb22⟩; have hka := Bel.ka HB.out hb22 (by repeat (with_reducible first | exact Below.refl _ _ | refine Bel.alloc ?_ _ | refine Below.drew ?_ | refine Bel.drewN ?_ _)); (try (replace HP := Lib.hid (Blk.step hb22 (Blk.step hka HP.out)))); (try (replace HIa := Lib.hid (Ints.step hb22 (Ints.step hka HIa.out)))); (try (replace HIb := Lib.hid (Ints.step hb22 (Ints.step hka HIb.out)))); (try (replace H2 := Lib.hid (Ints.step hb22 (Ints.step hka H2.out)))); replace HB := Lib.hid (Bel.step hb22 (Bel.step hka HB.out)); have hsz22 := hb22.size; have hsy22 := hka.size; (try simp only [World.size_alloc, World.size_drew, World.heap_drewN, World.size_setCell] at hsz22 hsy22); clear hka hb22
        obtain ⟨kv, hkv⟩ : ∃ k, k = prjC a u0 u1 u2 := ⟨_, rfl⟩
        obtain ⟨v0, hv0⟩ : ∃ k, k = prjV a u0 u1 u2 0 := ⟨_, rfl⟩
        obtain ⟨v1, hv1⟩ : ∃ k, k = prjV a u0 u1 u2 1 := ⟨_, rfl⟩
        obtain ⟨v2, hv2⟩ : ∃ k, k = prjV a u0 u1 u2 2 := ⟨_, rfl⟩
        rw [← hkv, ← hv0, ← hv1, ← hv2]
        have HV := Lib.hid (And.intro hkv (And.intro hv0 (And.intro hv1 hv2)))
        clear hkv hv0 hv1 hv2
        have HVB := Lib.hid (by have h := Blk.new w22 45 #[.int .i64 v0, .int .i64 v1, .int .i64 v2]; (try simp only [World.size_alloc] at h); exact h)
        replace HP := Lib.hid (Blk.alloc (.cells #[.int .i64 v0, .int .i64 v1, .int .i64 v2] 45) HP.out)
        replace HIa := Lib.hid (Ints.alloc (.cells #[.int .i64 v0, .int .i64 v1, .int .i64 v2] 45) HIa.out)
        replace HIb := Lib.hid (Ints.alloc (.cells #[.int .i64 v0, .int .i64 v1, .int .i64 v2] 45) HIb.out)
        replace H2 := Lib.hid (Ints.alloc (.cells #[.int .i64 v0, .int .i64 v1, .int .i64 v2] 45) H2.out)
        replace HB := Lib.hid (Bel.alloc HB.out (.cells #[.int .i64 v0, .int .i64 v1, .int .i64 v2] 45))
        go_wp2_with (first | (refine wpList_load_blkG 45 _ _ (Blk.step (Bel.ka0 HB.out (by repeat (with_reducible first | exact Below.refl _ _ | refine Bel.alloc ?_ _ | refine Below.drew ?_ | refine Bel.drewN ?_ _))) HP.out) Try.underlying45 (by kernel_rfl) rfl rfl (by rfl) ?_))
        go_at_call 24; refine (ProjectPoint_I A2 c2 C (by omega) s0 s1 s2 _ (by repeat (with_reducible first | exact H2.out | assumption | refine Ints.drew ?_ | refine Ints.drewN _ ?_ | refine Ints.alloc _ ?_ | refine Ints.step (by assumption) ?_))).mono ?_; rintro e w23 ⟨rfl, hb23⟩; have hka := Bel.ka HB.out hb23 (by repeat (with_reducible first | exact Below.refl _ _ | refine Bel.alloc ?_ _ | refine Below.drew ?_ | refine Bel.drewN ?_ _)); (try (replace HP := Lib.hid (Blk.step hb23 (Blk.step hka HP.out)))); (try (replace HVB := Lib.hid (Blk.step hb23 (Blk.step hka HVB.out)))); replace HB := Lib.hid (Bel.step hb23 (Bel.step hka HB.out)); have hsz23 := hb23.size; have hsy23 := hka.size; (try simp only [World.size_alloc, World.size_drew, World.heap_drewN, World.size_setCell] at hsz23 hsy23); clear hka hb23
        obtain ⟨kz, hkz⟩ : ∃ k, k = prjC C s0 s1 s2 := ⟨_, rfl⟩
        obtain ⟨z0, hz0⟩ : ∃ k, k = prjV C s0 s1 s2 0 := ⟨_, rfl⟩
        obtain ⟨z1, hz1⟩ : ∃ k, k = prjV C s0 s1 s2 1 := ⟨_, rfl⟩
        obtain ⟨z2, hz2⟩ : ∃ k, k = prjV C s0 s1 s2 2 := ⟨_, rfl⟩
        rw [← hkz, ← hz0, ← hz1, ← hz2]
        have HZ := Lib.hid (And.intro hkz (And.intro hz0 (And.intro hz1 hz2)))
        clear hkz hz0 hz1 hz2
        have HZB := Lib.hid (by have h := Blk.new w23 45 #[.int .i64 z0, .int .i64 z1, .int .i64 z2]; (try simp only [World.size_alloc] at h); exact h)
        replace HP := Lib.hid (Blk.alloc (.cells #[.int .i64 z0, .int .i64 z1, .int .i64 z2] 45) HP.out)
        replace HVB := Lib.hid (Blk.alloc (.cells #[.int .i64 z0, .int .i64 z1, .int .i64 z2] 45) HVB.out)
        replace HB := Lib.hid (Bel.alloc HB.out (.cells #[.int .i64 z0, .int .i64 z1, .int .i64 z2] 45))
        by_cases hv0 : kv = 0
        rotate_left
        · have hkb : (kv == 0) = false := by simpa using hv0
          go_wp2
          all_goals (go_ret; exact ⟨rfl, HB.out⟩)
        by_cases hz0 : kz = 0
        rotate_left
        · have hkb : (kz == 0) = false := by simpa using hz0
          go_wp2
          all_goals (go_ret; exact ⟨rfl, HB.out⟩)
        have hfin : v0 = z0 ∧ v1 = z1 ∧ v2 = z2 := by
          have e := HCOM.out s0 s1 s2 hc0 (by rw [← HU.out.1]; exact hu0) (by rw [← HU.out.2.1, ← HU.out.2.2.1, ← HU.out.2.2.2, ← HV.out.1]; exact hv0) (by rw [← HZ.out.1]; exact hz0)
          rw [← HU.out.2.1, ← HU.out.2.2.1, ← HU.out.2.2.2, ← HV.out.2.1, ← HV.out.2.2.1, ← HV.out.2.2.2, ← HZ.out.2.1, ← HZ.out.2.2.1, ← HZ.out.2.2.2] at e
          exact e
        obtain ⟨rfl, rfl, rfl⟩ := hfin
        subst hv0 hz0
        clear HPV HRV HRF HF HCOM HU HV HZ
        have cV0 : (w23.alloc (.cells #[.int .i64 v0, .int .i64 v1, .int .i64 v2] 45)).cell? ⟨w22.heap.size, 0, none⟩ = some (.int .i64 v0) := by rw [HVB.out.cell]; rfl
        have cV1 : (w23.alloc (.cells #[.int .i64 v0, .int .i64 v1, .int .i64 v2] 45)).cell? ⟨w22.heap.size, 1, none⟩ = some (.int .i64 v1) := by rw [HVB.out.cell]; rfl
        have cV2 : (w23.alloc (.cells #[.int .i64 v0, .int .i64 v1, .int .i64 v2] 45)).cell? ⟨w22.heap.size, 2, none⟩ = some (.int .i64 v2) := by rw [HVB.out.cell]; rfl
        have cZ0 : (w23.alloc (.cells #[.int .i64 v0, .int .i64 v1, .int .i64 v2] 45)).cell? ⟨w23.heap.size, 0, none⟩ = some (.int .i64 v0) := by rw [HZB.out.cell]; rfl
        have cZ1 : (w23.alloc (.cells #[.int .i64 v0, .int .i64 v1, .int .i64 v2] 45)).cell? ⟨w23.heap.size, 1, none⟩ = some (.int .i64 v1) := by rw [HZB.out.cell]; rfl
        have cZ2 : (w23.alloc (.cells #[.int .i64 v0, .int .i64 v1, .int .i64 v2] 45)).cell? ⟨w23.heap.size, 2, none⟩ = some (.int .i64 v2) := by rw [HZB.out.cell]; rfl
        go_wp2
        go_ret
        exact ⟨rfl, HB.out⟩
      have hkb0 : (ks == 0) = false := by simpa using hs0
      go_upto_region 23 with (fail)
      generalize w14.alloc (.cells #[.int .i64 s0, .int .i64 s1, .int .i64 s2] 45) = W at HP HIa HIb H2 HSB HB ⊢
      by_cases hc0 : kc = 0
      rotate_left
      · have hkb : (kc == 0) = false := by simpa using hc0
        go_wp2
        all_goals (go_ret; exact ⟨rfl, HB.out⟩)
      go_wp2_with (first | (refine wpList_load_blkG 45 _ _ (Blk.step (Bel.ka0 HB.out (by repeat (with_reducible first | exact Below.refl _ _ | refine Bel.alloc ?_ _ | refine Below.drew ?_ | refine Bel.drewN ?_ _))) HP.out) Try.underlying45 (by kernel_rfl) rfl rfl (by rfl) ?_))
      go_at_call 24; refine (ProjectPoint_I (some ⟨gb, 0, none⟩) qb b (by omega) p0 p1 p2 _ (by repeat (with_reducible first | exact HIb.out | assumption | refine Ints.drew ?_ | refine Ints.drewN _ ?_ | refine Ints.alloc _ ?_ | refine Ints.step (by assumption) ?_))).mono ?_; rintro e w21 ⟨rfl, hb21⟩; have hka := Bel.ka HB.out hb21 (by repeat (with_reducible first | exact Below.refl _ _ | refine Bel.alloc ?_ _ | refine Below.drew ?_ | refine Bel.drewN ?_ _)); (try (replace HP := Lib.hid (Blk.step hb21 (Blk.step hka HP.out)))); (try (replace HIa := Lib.hid (Ints.step hb21 (Ints.step hka HIa.out)))); (try (replace HIb := Lib.hid (Ints.step hb21 (Ints.step hka HIb.out)))); (try (replace H2 := Lib.hid (Ints.step hb21 (Ints.step hka H2.out)))); replace HB := Lib.hid (Bel.step hb21 (Bel.step hka HB.out)); have hsz21 := hb21.size; have hsy21 := hka.size; (try simp only [World.size_alloc, World.size_drew, World.heap_drewN, World.size_setCell] at hsz21 hsy21); clear hka hb21
      obtain ⟨ku, hku⟩ : ∃ k, k = prjC b p0 p1 p2 := ⟨_, rfl⟩
      obtain ⟨u0, hu0⟩ : ∃ k, k = prjV b p0 p1 p2 0 := ⟨_, rfl⟩
      obtain ⟨u1, hu1⟩ : ∃ k, k = prjV b p0 p1 p2 1 := ⟨_, rfl⟩
      obtain ⟨u2, hu2⟩ : ∃ k, k = prjV b p0 p1 p2 2 := ⟨_, rfl⟩
      rw [← hku, ← hu0, ← hu1, ← hu2]
      have HU := Lib.hid (And.intro hku (And.intro hu0 (And.intro hu1 hu2)))
      clear hku hu0 hu1 hu2
      have HUB := Lib.hid (by have h := Blk.new w21 45 #[.int .i64 u0, .int .i64 u1, .int .i64 u2]; (try simp only [World.size_alloc] at h); exact h)
      replace HP := Lib.hid (Blk.alloc (.cells #[.int .i64 u0, .int .i64 u1, .int .i64 u2] 45) HP.out)
      replace HIa := Lib.hid (Ints.alloc (.cells #[.int .i64 u0, .int .i64 u1, .int .i64 u2] 45) HIa.out)
      replace HIb := Lib.hid (Ints.alloc (.cells #[.int .i64 u0, .int .i64 u1, .int .i64 u2] 45) HIb.out)
      replace H2 := Lib.hid (Ints.alloc (.cells #[.int .i64 u0, .int .i64 u1, .int .i64 u2] 45) H2.out)
      replace HB := Lib.hid (Bel.alloc HB.out (.cells #[.int .i64 u0, .int .i64 u1, .int .i64 u2] 45))
      by_cases hu0 : ku = 0
      rotate_left
      · have hkb : (ku == 0) = false := by simpa using hu0
        go_wp2
        all_goals (go_ret; exact ⟨rfl, HB.out⟩)
      go_wp2_with (first | (refine wpList_load_blkG 45 _ _ (Blk.step (Bel.ka0 HB.out (by repeat (with_reducible first | exact Below.refl _ _ | refine Bel.alloc ?_ _ | refine Below.drew ?_ | refine Bel.drewN ?_ _))) HUB.out) Try.underlying45 (by kernel_rfl) rfl rfl (by rfl) ?_))
      go_at_call 24; refine (ProjectPoint_I (some ⟨ga, 0, none⟩) qa a (by omega) u0 u1 u2 _ (by repeat (with_reducible first | exact HIa.out | assumption | refine Ints.drew ?_ | refine Ints.drewN _ ?_ | refine Ints.alloc _ ?_ | refine Ints.step (by assumption) ?_))).mono ?_; rintro e w22 ⟨rfl, hb22⟩; have hka := Bel.ka HB.out hb22 (by repeat (with_reducible first | exact Below.refl _ _ | refine Bel.alloc ?_ _ | refine Below.drew ?_ | refine Bel.drewN ?_ _)); (try (replace HP := Lib.hid (Blk.step hb22 (Blk.step hka HP.out)))); (try (replace HIa := Lib.hid (Ints.step hb22 (Ints.step hka HIa.out)))); (try (replace HIb := Lib.hid (Ints.step hb22 (Ints.step hka HIb.out)))); (try (replace H2 := Lib.hid (Ints.step hb22 (Ints.step hka H2.out)))); replace HB := Lib.hid (Bel.step hb22 (Bel.step hka HB.out)); have hsz22 := hb22.size; have hsy22 := hka.size; (try simp only [World.size_alloc, World.size_drew, World.heap_drewN, World.size_setCell] at hsz22 hsy22); clear hka hb22
      obtain ⟨kv, hkv⟩ : ∃ k, k = prjC a u0 u1 u2 := ⟨_, rfl⟩
      obtain ⟨v0, hv0⟩ : ∃ k, k = prjV a u0 u1 u2 0 := ⟨_, rfl⟩
      obtain ⟨v1, hv1⟩ : ∃ k, k = prjV a u0 u1 u2 1 := ⟨_, rfl⟩
      obtain ⟨v2, hv2⟩ : ∃ k, k = prjV a u0 u1 u2 2 := ⟨_, rfl⟩
      rw [← hkv, ← hv0, ← hv1, ← hv2]
      have HV := Lib.hid (And.intro hkv (And.intro hv0 (And.intro hv1 hv2)))
      clear hkv hv0 hv1 hv2
      have HVB := Lib.hid (by have h := Blk.new w22 45 #[.int .i64 v0, .int .i64 v1, .int .i64 v2]; (try simp only [World.size_alloc] at h); exact h)
      replace HP := Lib.hid (Blk.alloc (.cells #[.int .i64 v0, .int .i64 v1, .int .i64 v2] 45) HP.out)
      replace HIa := Lib.hid (Ints.alloc (.cells #[.int .i64 v0, .int .i64 v1, .int .i64 v2] 45) HIa.out)
      replace HIb := Lib.hid (Ints.alloc (.cells #[.int .i64 v0, .int .i64 v1, .int .i64 v2] 45) HIb.out)
      replace H2 := Lib.hid (Ints.alloc (.cells #[.int .i64 v0, .int .i64 v1, .int .i64 v2] 45) H2.out)
      replace HB := Lib.hid (Bel.alloc HB.out (.cells #[.int .i64 v0, .int .i64 v1, .int .i64 v2] 45))
      go_wp2_with (first | (refine wpList_load_blkG 45 _ _ (Blk.step (Bel.ka0 HB.out (by repeat (with_reducible first | exact Below.refl _ _ | refine Bel.alloc ?_ _ | refine Below.drew ?_ | refine Bel.drewN ?_ _))) HP.out) Try.underlying45 (by kernel_rfl) rfl rfl (by rfl) ?_))
      go_at_call 24; refine (ProjectPoint_I A2 c2 C (by omega) p0 p1 p2 _ (by repeat (with_reducible first | exact H2.out | assumption | refine Ints.drew ?_ | refine Ints.drewN _ ?_ | refine Ints.alloc _ ?_ | refine Ints.step (by assumption) ?_))).mono ?_; rintro e w23 ⟨rfl, hb23⟩; have hka := Bel.ka HB.out hb23 (by repeat (with_reducible first | exact Below.refl _ _ | refine Bel.alloc ?_ _ | refine Below.drew ?_ | refine Bel.drewN ?_ _)); (try (replace HP := Lib.hid (Blk.step hb23 (Blk.step hka HP.out)))); (try (replace HVB := Lib.hid (Blk.step hb23 (Blk.step hka HVB.out)))); replace HB := Lib.hid (Bel.step hb23 (Bel.step hka HB.out)); have hsz23 := hb23.size; have hsy23 := hka.size; (try simp only [World.size_alloc, World.size_drew, World.heap_drewN, World.size_setCell] at hsz23 hsy23); clear hka hb23
      obtain ⟨kz, hkz⟩ : ∃ k, k = prjC C p0 p1 p2 := ⟨_, rfl⟩
      obtain ⟨z0, hz0⟩ : ∃ k, k = prjV C p0 p1 p2 0 := ⟨_, rfl⟩
      obtain ⟨z1, hz1⟩ : ∃ k, k = prjV C p0 p1 p2 1 := ⟨_, rfl⟩
      obtain ⟨z2, hz2⟩ : ∃ k, k = prjV C p0 p1 p2 2 := ⟨_, rfl⟩
      rw [← hkz, ← hz0, ← hz1, ← hz2]
      have HZ := Lib.hid (And.intro hkz (And.intro hz0 (And.intro hz1 hz2)))
      clear hkz hz0 hz1 hz2
      have HZB := Lib.hid (by have h := Blk.new w23 45 #[.int .i64 z0, .int .i64 z1, .int .i64 z2]; (try simp only [World.size_alloc] at h); exact h)
      replace HP := Lib.hid (Blk.alloc (.cells #[.int .i64 z0, .int .i64 z1, .int .i64 z2] 45) HP.out)
      replace HVB := Lib.hid (Blk.alloc (.cells #[.int .i64 z0, .int .i64 z1, .int .i64 z2] 45) HVB.out)
      replace HB := Lib.hid (Bel.alloc HB.out (.cells #[.int .i64 z0, .int .i64 z1, .int .i64 z2] 45))
      by_cases hv0 : kv = 0
      rotate_left
      · have hkb : (kv == 0) = false := by simpa using hv0
        go_wp2
        all_goals (go_ret; exact ⟨rfl, HB.out⟩)
      by_cases hz0 : kz = 0
      rotate_left
      · have hkb : (kz == 0) = false := by simpa using hz0
        go_wp2
        all_goals (go_ret; exact ⟨rfl, HB.out⟩)
      have hfin : v0 = z0 ∧ v1 = z1 ∧ v2 = z2 := by
        have e := HCOM.out p0 p1 p2 hc0 (by rw [← HU.out.1]; exact hu0) (by rw [← HU.out.2.1, ← HU.out.2.2.1, ← HU.out.2.2.2, ← HV.out.1]; exact hv0) (by rw [← HZ.out.1]; exact hz0)
        rw [← HU.out.2.1, ← HU.out.2.2.1, ← HU.out.2.2.2, ← HV.out.2.1, ← HV.out.2.2.1, ← HV.out.2.2.2, ← HZ.out.2.1, ← HZ.out.2.2.1, ← HZ.out.2.2.2] at e
        exact e
      obtain ⟨rfl, rfl, rfl⟩ := hfin
      subst hv0 hz0
      clear HPV HRV HRF HF HCOM HU HV HZ
      have cV0 : (w23.alloc (.cells #[.int .i64 v0, .int .i64 v1, .int .i64 v2] 45)).cell? ⟨w22.heap.size, 0, none⟩ = some (.int .i64 v0) := by rw [HVB.out.cell]; rfl
      have cV1 : (w23.alloc (.cells #[.int .i64 v0, .int .i64 v1, .int .i64 v2] 45)).cell? ⟨w22.heap.size, 1, none⟩ = some (.int .i64 v1) := by rw [HVB.out.cell]; rfl
      have cV2 : (w23.alloc (.cells #[.int .i64 v0, .int .i64 v1, .int .i64 v2] 45)).cell? ⟨w22.heap.size, 2, none⟩ = some (.int .i64 v2) := by rw [HVB.out.cell]; rfl
      have cZ0 : (w23.alloc (.cells #[.int .i64 v0, .int .i64 v1, .int .i64 v2] 45)).cell? ⟨w23.heap.size, 0, none⟩ = some (.int .i64 v0) := by rw [HZB.out.cell]; rfl
      have cZ1 : (w23.alloc (.cells #[.int .i64 v0, .int .i64 v1, .int .i64 v2] 45)).cell? ⟨w23.heap.size, 1, none⟩ = some (.int .i64 v1) := by rw [HZB.out.cell]; rfl
      have cZ2 : (w23.alloc (.cells #[.int .i64 v0, .int .i64 v1, .int .i64 v2] 45)).cell? ⟨w23.heap.size, 2, none⟩ = some (.int .i64 v2) := by rw [HZB.out.cell]; rfl
      go_wp2
      go_ret
      exact ⟨rfl, HB.out⟩
end Go.Proofs.Ythfphjbaglgacaa
