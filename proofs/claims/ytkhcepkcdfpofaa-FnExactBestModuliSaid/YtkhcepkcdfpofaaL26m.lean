/- Chapter 26: the best moduli, plain. Conditions: as stated at each contract. -/
import Derived.Test.YtkhcepkcdfpofaaProg
import Derived.Test.YtkhcepkcdfpofaaBase
import Derived.Test.YtkhcepkcdfpofaaRw
import Derived.Test.YtkhcepkcdfpofaaRg
import Derived.Test.YtkhcepkcdfpofaaL01
import Derived.Test.YtkhcepkcdfpofaaCp
import Derived.Test.YtkhcepkcdfpofaaCh
import Derived.Test.YtkhcepkcdfpofaaL18
import Derived.Test.YtkhcepkcdfpofaaL23
import Derived.Test.YtkhcepkcdfpofaaL03
import Derived.Test.YtkhcepkcdfpofaaL04
import Derived.Test.YtkhcepkcdfpofaaL23d
import Derived.Test.YtkhcepkcdfpofaaL23e
import Derived.Test.YtkhcepkcdfpofaaL23f
import Derived.Test.YtkhcepkcdfpofaaL24
import Derived.Test.YtkhcepkcdfpofaaL24b
import Derived.Test.YtkhcepkcdfpofaaL24c
import Derived.Test.YtkhcepkcdfpofaaL24d
import Derived.Test.YtkhcepkcdfpofaaL24f
import Derived.Test.YtkhcepkcdfpofaaL24g
import Derived.Test.YtkhcepkcdfpofaaL24r
import Derived.Test.YtkhcepkcdfpofaaL23g
import Derived.Test.YtkhcepkcdfpofaaL23h
import Derived.Test.YtkhcepkcdfpofaaL26a
import Derived.Test.YtkhcepkcdfpofaaL26b
import Derived.Test.YtkhcepkcdfpofaaL26h
import Derived.Test.YtkhcepkcdfpofaaL26i
import Derived.Test.YtkhcepkcdfpofaaL26j
import Derived.Test.YtkhcepkcdfpofaaL26k
import Derived.WalkKit
import Derived.WalkSpells
import Derived.WalkLawsBesides
import Derived.Lib.Hide
import Derived.Deep.QuietTactic
import Derived.BigQuiet
import Derived.Deep.Draws
import Derived.Deep.RegionHeld3
namespace Go.Proofs.Ytkhcepkcdfpofaa
open Go.RowKit
set_option linter.unusedVariables false
set_option linter.unusedSimpArgs false
def mC (C : Ch) (a b : Int) : Ch := { C with lf := a, rt := b }
theorem mC_ok {C : Ch} {a b : Int} (h : okCh C = true) (ha : inB a 100 20000 = true) (hb : inB b 100 20000 = true) : okCh (mC C a b) = true := by
  have h5 : okFm (mC C a b) = okFm C := rfl
  simp only [okCh, Bool.and_eq_true] at h ⊢
  refine ⟨⟨⟨⟨by rw [h5]; exact h.1.1.1.1, h.1.1.1.2⟩, h.1.1.2⟩, ha⟩, hb⟩
/-- One trial: the better of the best so far and this pair. -/
def bmS (C : Ch) (us vs : List (Int × Int)) (e most a : Int) (s : Int × Int × Int) (b : Int) : Int × Int × Int :=
  if (htC (mC C a b) us vs = 0 ∧ wC (mC C a b) us vs = 0 ∧ htV (mC C a b) us vs ≤ most) ∧ (s.2.2 < 0 ∨ (wV (mC C a b) us vs e).1 < s.2.2) then (a, b, (wV (mC C a b) us vs e).1) else s
def bmR (C : Ch) (us vs : List (Int × Int)) (e most : Int) (ms : List Int) (s : Int × Int × Int) (a : Int) : Int × Int × Int := ms.foldl (bmS C us vs e most a) s
def bmT (C : Ch) (us vs : List (Int × Int)) (e most : Int) (ms : List Int) : Int × Int × Int := ms.foldl (bmR C us vs e most ms) (0, 0, -1)
def msOk (ms : List Int) : Bool := ms.all fun m => inB m 100 20000
def bmG (ms : List Int) (most : Int) : Bool := decide (ms.length ≤ 8) && inB most 0 100000 && msOk ms
def bmC (C : Ch) (us vs : List (Int × Int)) (e most : Int) (ms : List Int) : Int :=
  if lyC C us vs e ≠ 0 then lyC C us vs e else if bmG ms most = false then 2 else if (bmT C us vs e most ms).2.2 < 0 then 4 else 0
def bmV (C : Ch) (us vs : List (Int × Int)) (e most : Int) (ms : List Int) : Int × Int :=
  if bmC C us vs e most ms = 0 then ((bmT C us vs e most ms).1, (bmT C us vs e most ms).2.1) else (0, 0)
theorem foldl_step {α β : Type} (f : β → α → β) (s : β) {l : List α} {k : Nat} (hk : k < l.length) : (l.take (k + 1)).foldl f s = f ((l.take k).foldl f s) l[k] := by
  rw [List.take_succ_eq_append_getElem hk, List.foldl_append]
  rfl
theorem bm_ly {C : Ch} {us vs : List (Int × Int)} {e most : Int} {ms : List Int} (h : lyC C us vs e ≠ 0) : bmC C us vs e most ms = lyC C us vs e ∧ bmV C us vs e most ms = (0, 0) := by
  have h1 : bmC C us vs e most ms = lyC C us vs e := by simp [bmC, h]
  exact ⟨h1, by simp [bmV, h1, h]⟩
theorem bm_2 {C : Ch} {us vs : List (Int × Int)} {e most : Int} {ms : List Int} (h : lyC C us vs e = 0) (hg : bmG ms most = false) : bmC C us vs e most ms = 2 ∧ bmV C us vs e most ms = (0, 0) := by
  have h1 : bmC C us vs e most ms = 2 := by simp [bmC, h, hg]
  exact ⟨h1, by simp [bmV, h1]⟩
theorem bm_4 {C : Ch} {us vs : List (Int × Int)} {e most : Int} {ms : List Int} (h : lyC C us vs e = 0) (hg : bmG ms most = true) (hn : (bmT C us vs e most ms).2.2 < 0) : bmC C us vs e most ms = 4 ∧ bmV C us vs e most ms = (0, 0) := by
  have h1 : bmC C us vs e most ms = 4 := by simp [bmC, h, hg, hn]
  exact ⟨h1, by simp [bmV, h1]⟩
theorem bm_0 {C : Ch} {us vs : List (Int × Int)} {e most : Int} {ms : List Int} (h : lyC C us vs e = 0) (hg : bmG ms most = true) (hn : ¬ (bmT C us vs e most ms).2.2 < 0) : bmC C us vs e most ms = 0 ∧ bmV C us vs e most ms = ((bmT C us vs e most ms).1, (bmT C us vs e most ms).2.1) := by
  have h1 : bmC C us vs e most ms = 0 := by simp only [bmC, h, hg]; simp [hn]
  exact ⟨h1, by simp [bmV, h1]⟩
theorem msOk_step {ms : List Int} {k : Nat} (hk : k < ms.length) : msOk (ms.take (k + 1)) = (msOk (ms.take k) && inB ms[k] 100 20000) := by
  unfold msOk
  rw [List.take_succ_eq_append_getElem hk, List.all_append]
  simp
theorem bmS_yes {C : Ch} {us vs : List (Int × Int)} {e most a b : Int} {s : Int × Int × Int} (h1 : htC (mC C a b) us vs = 0) (h2 : wC (mC C a b) us vs = 0) (h3 : htV (mC C a b) us vs ≤ most) (h4 : s.2.2 < 0 ∨ (wV (mC C a b) us vs e).1 < s.2.2) :
    bmS C us vs e most a s b = (a, b, (wV (mC C a b) us vs e).1) := by unfold bmS; rw [if_pos ⟨⟨h1, h2, h3⟩, h4⟩]
theorem bmS_no {C : Ch} {us vs : List (Int × Int)} {e most a b : Int} {s : Int × Int × Int} (h : ¬ ((htC (mC C a b) us vs = 0 ∧ wC (mC C a b) us vs = 0 ∧ htV (mC C a b) us vs ≤ most) ∧ (s.2.2 < 0 ∨ (wV (mC C a b) us vs e).1 < s.2.2))) :
    bmS C us vs e most a s b = s := by unfold bmS; rw [if_neg h]
set_option maxRecDepth 50000 in
set_option maxHeartbeats 4000000 in
theorem BestModuli_S (C : Ch) (A : Option Addr) (c : Nat) (M : Option Addr) (m : Nat) (ms : List Int) (D : Option Addr) (d : Nat) (us : List (Int × Int)) (E : Option Addr) (f : Nat) (vs : List (Int × Int)) (e most : Int) (hn : C.zs.length ≤ 1048576) (hm : C.nm.size ≤ 1048576) (hx : ms.length ≤ 1048576) (hu : us.length ≤ 1048576) (hv : vs.length ≤ 1048576) (w : World) (hA : Ints w A C.zs) (hM : Ints w M ms) (hD : Prs w D us) (hE : Prs w E vs) :
    Calls Try.prog 42 #[.agg #[.int .i64 C.dg, .int .i64 C.tn, .string C.nm, .slice A C.zs.length c, .int .i64 C.wd, .int .i64 C.lf, .int .i64 C.rt], .slice M ms.length m, .slice D us.length d, .slice E vs.length f, .int .i64 e, .int .i64 most] w fun r w' => r = .returned (.tuple #[.int .i64 (bmV C us vs e most ms).1, .int .i64 (bmV C us vs e most ms).2, .int .i64 (bmC C us vs e most ms)]) ∧ Below w.heap.size w w' := by
  have HI := Lib.hid hA
  have HM := Lib.hid hM
  have HD := Lib.hid hD
  have HE := Lib.hid hE
  clear hA hM hD hE
  go_enter Try.func42, Try.ntmps42
  go_wp2_with fail
  go_at_call 50; refine (l26Code_c _ _ _ _ _ us _ _ vs e hn hm hu hv _ (by repeat (with_reducible first | exact HI.out | assumption | refine Ints.drew ?_ | refine Ints.drewN _ ?_ | refine Ints.alloc _ ?_ | refine Ints.step (by assumption) ?_)) (by repeat (with_reducible first | exact HD.out | assumption | refine Prs.drew ?_ | refine Prs.drewN _ ?_ | refine Prs.alloc _ ?_ | refine Prs.step (by assumption) ?_)) (by repeat (with_reducible first | exact HE.out | assumption | refine Prs.drew ?_ | refine Prs.drewN _ ?_ | refine Prs.alloc _ ?_ | refine Prs.step (by assumption) ?_))).mono ?_; rintro r w1 ⟨rfl, hb1⟩
  have HC1 : Blk w1 w.heap.size 38 #[.int .i64 C.dg, .int .i64 C.tn, .string C.nm, .slice A C.zs.length c, .int .i64 C.wd, .int .i64 C.lf, .int .i64 C.rt] := Blk.step hb1 (Blk.new _ _ _)
  have hbel1 : Below w.heap.size w w1 := by repeat (with_reducible first | exact Below.refl _ _ | assumption | refine Bel.alloc ?_ _ | refine Bel.step (by assumption) ?_ | refine Below.drew ?_ | refine Bel.drewN ?_ _ | refine Below.setCell ?_ (by first | exact Nat.le_refl _ | omega | (simp; done) | (simp; omega)) _)
  have HC1 := Lib.hid HC1
  clear hb1
  obtain ⟨g0, hg0⟩ : ∃ g : Bool, g = (decide (ms.length ≤ 8) && inB most 0 100000) := ⟨_, rfl⟩
  obtain ⟨code, hcode⟩ : ∃ z, z = lyC C us vs e := ⟨_, rfl⟩
  rw [← hcode]
  have HCo := Lib.hid hcode
  clear hcode
  have HG0 := Lib.hid hg0
  clear hg0
  by_cases h8 : ms.length ≤ 8
  rotate_left
  · have HB := Lib.hid (show bmG ms most = false by simp [bmG, h8])
    go_wp2
    go_loopw [16, 17] (fun g i wr => ∃ k : Nat, k ≤ ms.length ∧ i = .int .i64 k ∧ g = .bool false ∧ Below w.heap.size w wr) (fun _ i _ => ms.length - (intOf i).toNat)
    case atStart => exact ⟨0, Nat.zero_le _, rfl, rfl, hbel1⟩
    case round =>
      clear HC1 hbel1
      obtain ⟨k, hk, rfl, rfl, hbel⟩ := hrel
      by_cases hlt : k < ms.length
      · go_wp2
        go_roundw
        case rel => exact ⟨k + 1, by omega, by go_num, rfl, hbel⟩
        case measure => simp [intOf]; omega
      · obtain rfl : k = ms.length := by omega
        by_cases hc : code = 0
        · have HT := Lib.hid (bm_2 (C := C) (us := us) (vs := vs) (e := e) (by rw [← HCo.out]; exact hc) HB.out)
          go_wp2
          refine bodyPost_ret (results_three rfl _ _ _) rfl ⟨by rw [HT.out.1, HT.out.2]; rfl, by repeat (with_reducible first | exact Below.refl _ _ | assumption | refine Bel.alloc ?_ _ | refine Bel.step (by assumption) ?_ | refine Below.drew ?_ | refine Bel.drewN ?_ _ | refine Below.setCell ?_ (by first | exact Nat.le_refl _ | omega | (simp; done) | (simp; omega)) _)⟩
        · have HT := Lib.hid (bm_ly (C := C) (us := us) (vs := vs) (e := e) (most := most) (ms := ms) (by rw [← HCo.out]; exact hc))
          rw [← HCo.out] at HT
          have b1 : (code != 0) = true := by simpa using hc
          have b2 : (code == 0) = false := by simpa using hc
          go_wp2
          refine bodyPost_ret (results_three rfl _ _ _) rfl ⟨by rw [HT.out.1, HT.out.2]; rfl, by repeat (with_reducible first | exact Below.refl _ _ | assumption | refine Bel.alloc ?_ _ | refine Bel.step (by assumption) ?_ | refine Below.drew ?_ | refine Bel.drewN ?_ _ | refine Below.setCell ?_ (by first | exact Nat.le_refl _ | omega | (simp; done) | (simp; omega)) _)⟩
  go_wp2_with fail
  go_at_call 81; refine (l01In_c _ _ _ _).mono ?_; rintro e w' ⟨rfl, rfl⟩
  have HC2 := HC1
  have hbel2 := hbel1
  clear HC1 hbel1
  have HB := Lib.hid (show bmG ms most = (inB most 0 100000 && msOk ms) by simp [bmG, h8])
  generalize hmq : inB most 0 100000 = gm at *
  clear hmq
  go_wp2
  go_loopw [16, 17] (fun g i wr => ∃ k : Nat, k ≤ ms.length ∧ i = .int .i64 k ∧ g = .bool (gm && msOk (ms.take k)) ∧ Hid (Blk wr w.heap.size 38 #[.int .i64 C.dg, .int .i64 C.tn, .string C.nm, .slice A C.zs.length c, .int .i64 C.wd, .int .i64 C.lf, .int .i64 C.rt]) ∧ Below w.heap.size w wr) (fun _ i _ => ms.length - (intOf i).toNat)
  case atStart => exact ⟨0, Nat.zero_le _, rfl, by simp [msOk], HC2, hbel2⟩
  case round =>
    clear HC2 hbel2
    obtain ⟨k, hk, rfl, rfl, HC, hbel⟩ := hrel
    by_cases hlt : k < ms.length
    · obtain ⟨bm, om, e', hbm, cm⟩ := (Ints.step hbel HM.out).at_ k hlt
      have HS := Lib.hid (msOk_step hlt)
      have clt := HC.out.lt
      subst e'
      generalize ms[k] = z at *
      cases hg : (gm && msOk (ms.take k))
      · have HN := Lib.hid (show (gm && msOk (ms.take (k + 1))) = false by rw [HS.out, ← Bool.and_assoc, hg]; rfl)
        clear hg
        go_wp2
        go_roundw
        case rel => exact ⟨k + 1, by omega, by go_num, by rw [HN.out], HC, hbel⟩
        case measure => simp [intOf]; omega
      · have HN := Lib.hid (show (gm && msOk (ms.take (k + 1))) = inB z 100 20000 by rw [HS.out, ← Bool.and_assoc, hg]; rfl)
        clear hg
        go_wp2_with fail
        go_at_call 81; refine (l01In_c _ _ _ _).mono ?_; rintro e w' ⟨rfl, rfl⟩
        go_wp2
        go_roundw
        case rel => exact ⟨k + 1, by omega, by go_num, by rw [HN.out], HC, hbel⟩
        case measure => simp [intOf]; omega
    obtain rfl : k = ms.length := by omega
    rw [List.take_length]
    by_cases hc : code = 0
    rotate_left
    · have HT := Lib.hid (bm_ly (C := C) (us := us) (vs := vs) (e := e) (most := most) (ms := ms) (by rw [← HCo.out]; exact hc))
      rw [← HCo.out] at HT
      have b1 : (code != 0) = true := by simpa using hc
      have b2 : (code == 0) = false := by simpa using hc
      go_wp2
      refine bodyPost_ret (results_three rfl _ _ _) rfl ⟨by rw [HT.out.1, HT.out.2]; rfl, by repeat (with_reducible first | exact Below.refl _ _ | assumption | refine Bel.alloc ?_ _ | refine Bel.step (by assumption) ?_ | refine Below.drew ?_ | refine Bel.drewN ?_ _ | refine Below.setCell ?_ (by first | exact Nat.le_refl _ | omega | (simp; done) | (simp; omega)) _)⟩
    have HL := Lib.hid (show lyC C us vs e = 0 by rw [← HCo.out]; exact hc)
    subst hc
    cases hg : (gm && msOk ms)
    · have HT := Lib.hid (bm_2 HL.out (HB.out.trans hg))
      clear hg
      go_wp2
      refine bodyPost_ret (results_three rfl _ _ _) rfl ⟨by rw [HT.out.1, HT.out.2]; rfl, by repeat (with_reducible first | exact Below.refl _ _ | assumption | refine Bel.alloc ?_ _ | refine Bel.step (by assumption) ?_ | refine Below.drew ?_ | refine Bel.drewN ?_ _ | refine Below.setCell ?_ (by first | exact Nat.le_refl _ | omega | (simp; done) | (simp; omega)) _)⟩
    have HGo := Lib.hid (HB.out.trans hg)
    have HMs := Lib.hid (show msOk ms = true by simp only [Bool.and_eq_true] at hg; exact hg.2)
    clear hg
    have HY := Lib.hid (lyC_0 HL.out)
    clear hk hlt
    go_wp2
    go_loopw [18, 19, 20, 21, 22, 23, 24, 25, 26, 27, 28, 29] (fun x y z i _ _ _ _ _ _ _ _ wr => ∃ k : Nat, k ≤ ms.length ∧ i = .int .i64 k ∧ x = .int .i64 ((ms.take k).foldl (bmR C us vs e most ms) (0, 0, -1)).1 ∧ y = .int .i64 ((ms.take k).foldl (bmR C us vs e most ms) (0, 0, -1)).2.1 ∧ z = .int .i64 ((ms.take k).foldl (bmR C us vs e most ms) (0, 0, -1)).2.2 ∧ Hid (Blk wr w.heap.size 38 #[.int .i64 C.dg, .int .i64 C.tn, .string C.nm, .slice A C.zs.length c, .int .i64 C.wd, .int .i64 C.lf, .int .i64 C.rt]) ∧ Below w.heap.size w wr) (fun _ _ _ i _ _ _ _ _ _ _ _ _ => ms.length - (intOf i).toNat)
    case atStart => exact ⟨0, Nat.zero_le _, rfl, rfl, rfl, rfl, HC, hbel⟩
    case round =>
      clear HC hbel
      obtain ⟨k, hk, rfl, rfl, rfl, rfl, HC, hbel⟩ := hrel
      by_cases hlt : k < ms.length
      rotate_left
      · obtain rfl : k = ms.length := by omega
        rw [List.take_length]
        by_cases hn4 : (bmT C us vs e most ms).2.2 < 0
        · have HT := Lib.hid (bm_4 HL.out HGo.out hn4)
          rw [show (ms.foldl (bmR C us vs e most ms) (0, 0, -1)) = bmT C us vs e most ms from rfl]
          generalize bmT C us vs e most ms = t at *
          go_wp2
          refine bodyPost_ret (results_three rfl _ _ _) rfl ⟨by rw [HT.out.1, HT.out.2]; rfl, by repeat (with_reducible first | exact Below.refl _ _ | assumption | refine Bel.alloc ?_ _ | refine Bel.step (by assumption) ?_ | refine Below.drew ?_ | refine Bel.drewN ?_ _ | refine Below.setCell ?_ (by first | exact Nat.le_refl _ | omega | (simp; done) | (simp; omega)) _)⟩
        · have HT := Lib.hid (bm_0 HL.out HGo.out hn4)
          rw [show (ms.foldl (bmR C us vs e most ms) (0, 0, -1)) = bmT C us vs e most ms from rfl]
          generalize bmT C us vs e most ms = t at *
          go_wp2
          refine bodyPost_ret (results_three rfl _ _ _) rfl ⟨by rw [HT.out.1, HT.out.2]; rfl, by repeat (with_reducible first | exact Below.refl _ _ | assumption | refine Bel.alloc ?_ _ | refine Bel.step (by assumption) ?_ | refine Below.drew ?_ | refine Bel.drewN ?_ _ | refine Below.setCell ?_ (by first | exact Nat.le_refl _ | omega | (simp; done) | (simp; omega)) _)⟩
      have HK := Lib.hid (foldl_step (bmR C us vs e most ms) (0, 0, -1) hlt)
      generalize (ms.take k).foldl (bmR C us vs e most ms) (0, 0, -1) = s at *
      go_wp2
      go_loopw [18, 19, 20, 22, 23, 24, 25, 26, 27, 28, 29] (fun x y z i _ _ _ _ _ _ _ wr => ∃ l : Nat, l ≤ ms.length ∧ i = .int .i64 l ∧ x = .int .i64 ((ms.take l).foldl (bmS C us vs e most ms[k]) s).1 ∧ y = .int .i64 ((ms.take l).foldl (bmS C us vs e most ms[k]) s).2.1 ∧ z = .int .i64 ((ms.take l).foldl (bmS C us vs e most ms[k]) s).2.2 ∧ Hid (Blk wr w.heap.size 38 #[.int .i64 C.dg, .int .i64 C.tn, .string C.nm, .slice A C.zs.length c, .int .i64 C.wd, .int .i64 C.lf, .int .i64 C.rt]) ∧ Below w.heap.size w wr) (fun _ _ _ i _ _ _ _ _ _ _ _ => ms.length - (intOf i).toNat)
      case atStart => exact ⟨0, Nat.zero_le _, rfl, rfl, rfl, rfl, HC, hbel⟩
      case round =>
        clear HC hbel
        obtain ⟨l, hl, rfl, rfl, rfl, rfl, HC, hbel⟩ := hrel
        by_cases hlt2 : l < ms.length
        rotate_left
        · obtain rfl : l = ms.length := by omega
          rw [List.take_length]
          have HR := Lib.hid (show (ms.take (k + 1)).foldl (bmR C us vs e most ms) (0, 0, -1) = ms.foldl (bmS C us vs e most ms[k]) s from HK.out)
          generalize ms.foldl (bmS C us vs e most ms[k]) s = t at *
          go_wp2
          go_roundw
          case rel => exact ⟨k + 1, by omega, by go_num, by rw [HR.out], by rw [HR.out], by rw [HR.out], HC, hbel⟩
          case measure => simp [intOf]; omega
        have HZ := Lib.hid (foldl_step (bmS C us vs e most ms[k]) s hlt2)
        have HAk := Lib.hid (List.all_eq_true.1 HMs.out _ (List.getElem_mem hlt))
        have HBl := Lib.hid (List.all_eq_true.1 HMs.out _ (List.getElem_mem hlt2))
        obtain ⟨bm, om, e1, hbm, ck⟩ := (Ints.step hbel HM.out).at_ k hlt
        obtain ⟨bm', om', e2, hbm', cl⟩ := (Ints.step hbel HM.out).at_ l hlt2
        subst e1
        cases e2
        clear HK
        have HMk := Lib.hid (fun (W : World) (hW : Below w.heap.size w W) => (Ints.step hW HM.out).at_ k hlt)
        have HMl := Lib.hid (fun (W : World) (hW : Below w.heap.size w W) => (Ints.step hW HM.out).at_ l hlt2)
        generalize ms[k] = a at *
        generalize ms[l] = b at *
        generalize (ms.take l).foldl (bmS C us vs e most a) s = t at *
        have HOk := Lib.hid (mC_ok HY.out.1 HAk.out HBl.out)
        have p0 : wr.cell? ⟨w.heap.size, 0, none⟩ = some (.int .i64 C.dg) := by rw [HC.out.cell]; rfl
        have p1 : wr.cell? ⟨w.heap.size, 1, none⟩ = some (.int .i64 C.tn) := by rw [HC.out.cell]; rfl
        have p2 : wr.cell? ⟨w.heap.size, 2, none⟩ = some (.string C.nm) := by rw [HC.out.cell]; rfl
        have p3 : wr.cell? ⟨w.heap.size, 3, none⟩ = some (.slice A C.zs.length c) := by rw [HC.out.cell]; rfl
        have p4 : wr.cell? ⟨w.heap.size, 4, none⟩ = some (.int .i64 C.wd) := by rw [HC.out.cell]; rfl
        have p5 : wr.cell? ⟨w.heap.size, 5, none⟩ = some (.int .i64 C.lf) := by rw [HC.out.cell]; rfl
        have p6 : wr.cell? ⟨w.heap.size, 6, none⟩ = some (.int .i64 C.rt) := by rw [HC.out.cell]; rfl
        have clt := HC.out.lt
        have HC0 := Lib.hid HC.out
        clear HC
        go_wp2
        go_region_held3 (fun w' => (w'.cell? ⟨w.heap.size, 0, none⟩ = some (.int .i64 C.dg) ∧ w'.cell? ⟨w.heap.size, 1, none⟩ = some (.int .i64 C.tn) ∧ w'.cell? ⟨w.heap.size, 2, none⟩ = some (.string C.nm) ∧ w'.cell? ⟨w.heap.size, 3, none⟩ = some (.slice A C.zs.length c) ∧ w'.cell? ⟨w.heap.size, 4, none⟩ = some (.int .i64 C.wd) ∧ w'.cell? ⟨w.heap.size, 5, none⟩ = some (.int .i64 C.lf) ∧ w'.cell? ⟨w.heap.size, 6, none⟩ = some (.int .i64 C.rt)) ∧ w'.cell? ⟨bm, om + k, none⟩ = some (.int .i64 a) ∧ w'.cell? ⟨bm, om + l, none⟩ = some (.int .i64 b)) (simp [go_sem, *]) (fail)
        have HCx : Blk ((wr.alloc (.cells #[.int .i64 (mC C a b).dg, .int .i64 (mC C a b).tn, .string (mC C a b).nm, .slice A (mC C a b).zs.length c, .int .i64 (mC C a b).wd, .int .i64 (mC C a b).lf, .int .i64 (mC C a b).rt] 38)).drew) wr.heap.size 38 #[.int .i64 (mC C a b).dg, .int .i64 (mC C a b).tn, .string (mC C a b).nm, .slice A (mC C a b).zs.length c, .int .i64 (mC C a b).wd, .int .i64 (mC C a b).lf, .int .i64 (mC C a b).rt] := Blk.drew (Blk.new wr _ _)
        have HC4 : Blk ((wr.alloc (.cells #[.int .i64 (mC C a b).dg, .int .i64 (mC C a b).tn, .string (mC C a b).nm, .slice A (mC C a b).zs.length c, .int .i64 (mC C a b).wd, .int .i64 (mC C a b).lf, .int .i64 (mC C a b).rt] 38)).drew) w.heap.size 38 #[.int .i64 C.dg, .int .i64 C.tn, .string C.nm, .slice A C.zs.length c, .int .i64 C.wd, .int .i64 C.lf, .int .i64 C.rt] := Blk.drew (Blk.alloc (.cells #[.int .i64 (mC C a b).dg, .int .i64 (mC C a b).tn, .string (mC C a b).nm, .slice A (mC C a b).zs.length c, .int .i64 (mC C a b).wd, .int .i64 (mC C a b).lf, .int .i64 (mC C a b).rt] 38) HC0.out)
        have hbel4 : Below w.heap.size w ((wr.alloc (.cells #[.int .i64 (mC C a b).dg, .int .i64 (mC C a b).tn, .string (mC C a b).nm, .slice A (mC C a b).zs.length c, .int .i64 (mC C a b).wd, .int .i64 (mC C a b).lf, .int .i64 (mC C a b).rt] 38)).drew) := by repeat (with_reducible first | exact Below.refl _ _ | assumption | refine Bel.alloc ?_ _ | refine Bel.step (by assumption) ?_ | refine Below.drew ?_ | refine Bel.drewN ?_ _ | refine Below.setCell ?_ (by first | exact Nat.le_refl _ | omega | (simp; done) | (simp; omega)) _)
        have HOl := Lib.hid HCx
        clear p0 p1 p2 p3 p4 p5 p6 ck cl hbm hbm' clt
        have q0 : ((wr.alloc (.cells #[.int .i64 (mC C a b).dg, .int .i64 (mC C a b).tn, .string (mC C a b).nm, .slice A (mC C a b).zs.length c, .int .i64 (mC C a b).wd, .int .i64 (mC C a b).lf, .int .i64 (mC C a b).rt] 38)).drew).cell? ⟨wr.heap.size, 0, none⟩ = some (.int .i64 C.dg) := by rw [HCx.cell]; rfl
        have HI4 := Lib.hid (Ints.step hbel4 HI.out)
        have HD4 := Lib.hid (Prs.step hbel4 HD.out)
        have HE4 := Lib.hid (Prs.step hbel4 HE.out)
        go_wp2_with fail
        go_at_call 56; refine (l26Height_c (mC C a b) A c _ _ us _ _ vs hn hm HOk.out HY.out.2.1 HY.out.2.2.1 HY.out.2.2.2.1.1 HY.out.2.2.2.1.2 HY.out.2.2.2.2.1.1 HY.out.2.2.2.2.1.2 _ HI4.out HD4.out HE4.out).mono ?_; rintro r w5 ⟨rfl, hb5⟩
        have HCx5 := Blk.step hb5 HCx
        have HC5 := Blk.step hb5 HC4
        have hbel5 := Bel.step hb5 hbel4
        have HI5 := Lib.hid (Ints.step hbel5 HI.out)
        have HD5 := Lib.hid (Prs.step hbel5 HD.out)
        have HE5 := Lib.hid (Prs.step hbel5 HE.out)
        clear hb5 HCx HC4 hbel4 HI4 HD4 HE4 HOl q0
        generalize wr.heap.size = X at HCx5 ⊢
        have p0 : w5.cell? ⟨X, 0, none⟩ = some (.int .i64 (mC C a b).dg) := by rw [HCx5.cell]; rfl
        have p1 : w5.cell? ⟨X, 1, none⟩ = some (.int .i64 (mC C a b).tn) := by rw [HCx5.cell]; rfl
        have p2 : w5.cell? ⟨X, 2, none⟩ = some (.string (mC C a b).nm) := by rw [HCx5.cell]; rfl
        have p3 : w5.cell? ⟨X, 3, none⟩ = some (.slice A (mC C a b).zs.length c) := by rw [HCx5.cell]; rfl
        have p4 : w5.cell? ⟨X, 4, none⟩ = some (.int .i64 (mC C a b).wd) := by rw [HCx5.cell]; rfl
        have p5 : w5.cell? ⟨X, 5, none⟩ = some (.int .i64 (mC C a b).lf) := by rw [HCx5.cell]; rfl
        have p6 : w5.cell? ⟨X, 6, none⟩ = some (.int .i64 (mC C a b).rt) := by rw [HCx5.cell]; rfl
        go_wp2_with fail
        go_at_call 51; refine (l26Worst_c (mC C a b) A c _ _ us _ _ vs e hn hm HOk.out HY.out.2.1 HY.out.2.2.1 HY.out.2.2.2.1.2 HY.out.2.2.2.2.1.2 HY.out.2.2.2.2.2.1 HY.out.2.2.2.2.2.2 _ HI5.out HD5.out HE5.out).mono ?_; rintro r w6 ⟨rfl, hb6⟩
        have HC6 := Lib.hid (Blk.step hb6 HC5)
        have hbel6 := Bel.step hb6 hbel5
        clear hb6 HC5 hbel5 HCx5 HI5 HD5 HE5 p0 p1 p2 p3 p4 p5 p6
        have HGx := Lib.hid (fun (h : ¬ ((htC (mC C a b) us vs = 0 ∧ wC (mC C a b) us vs = 0 ∧ htV (mC C a b) us vs ≤ most) ∧ (t.2.2 < 0 ∨ (wV (mC C a b) us vs e).1 < t.2.2))) => bmS_no (C := C) (us := us) (vs := vs) (e := e) (a := a) (b := b) h)
        have HGy := Lib.hid (fun h1 h2 h3 h4 => bmS_yes (C := C) (us := us) (vs := vs) (e := e) (most := most) (a := a) (b := b) (s := t) h1 h2 h3 h4)
        obtain ⟨b1, o1, e1, hb1, ck⟩ := HMk.out _ hbel6
        cases e1
        obtain ⟨b2, o2, e2, hb2, cl⟩ := HMl.out _ hbel6
        cases e2
        generalize htC (mC C a b) us vs = hc at *
        generalize wC (mC C a b) us vs = wc at *
        generalize htV (mC C a b) us vs = hv at *
        generalize (wV (mC C a b) us vs e).1 = wn at *
        generalize (wV (mC C a b) us vs e).2.1 = wi at *
        generalize (wV (mC C a b) us vs e).2.2 = wk at *
        by_cases c1 : hc = 0
        rotate_left
        · have d1 : (hc == 0) = false := by simpa using c1
          have HX := Lib.hid (HZ.out.trans (HGx.out (fun h => c1 h.1.1)))
          go_wp2
          go_roundw
          case rel => exact ⟨l + 1, by omega, by go_num, by rw [HX.out], by rw [HX.out], by rw [HX.out], HC6, hbel6⟩
          case measure => simp [intOf]; omega
        by_cases c2 : wc = 0
        rotate_left
        · have d1 : (hc == 0) = true := by simpa using c1
          have d2 : (wc == 0) = false := by simpa using c2
          have HX := Lib.hid (HZ.out.trans (HGx.out (fun h => c2 h.1.2.1)))
          go_wp2
          go_roundw
          case rel => exact ⟨l + 1, by omega, by go_num, by rw [HX.out], by rw [HX.out], by rw [HX.out], HC6, hbel6⟩
          case measure => simp [intOf]; omega
        have d1 : (hc == 0) = true := by simpa using c1
        have d2 : (wc == 0) = true := by simpa using c2
        by_cases c3 : hv ≤ most
        rotate_left
        · skip
          have HX := Lib.hid (HZ.out.trans (HGx.out (fun h => c3 h.1.2.2)))
          go_wp2
          go_roundw
          case rel => exact ⟨l + 1, by omega, by go_num, by rw [HX.out], by rw [HX.out], by rw [HX.out], HC6, hbel6⟩
          case measure => simp [intOf]; omega
        by_cases c4 : t.2.2 < 0
        · skip
          have HX := Lib.hid (HZ.out.trans (HGy.out c1 c2 c3 (Or.inl c4)))
          go_wp2
          go_roundw
          case rel => exact ⟨l + 1, by omega, by go_num, by rw [HX.out], by rw [HX.out], by rw [HX.out], HC6, hbel6⟩
          case measure => simp [intOf]; omega
        by_cases c5 : wn < t.2.2
        · skip
          have HX := Lib.hid (HZ.out.trans (HGy.out c1 c2 c3 (Or.inr c5)))
          go_wp2
          go_roundw
          case rel => exact ⟨l + 1, by omega, by go_num, by rw [HX.out], by rw [HX.out], by rw [HX.out], HC6, hbel6⟩
          case measure => simp [intOf]; omega
        have HX := Lib.hid (HZ.out.trans (HGx.out (fun h => h.2.elim c4 c5)))
        go_wp2
        go_roundw
        case rel => exact ⟨l + 1, by omega, by go_num, by rw [HX.out], by rw [HX.out], by rw [HX.out], HC6, hbel6⟩
        case measure => simp [intOf]; omega
end Go.Proofs.Ytkhcepkcdfpofaa
