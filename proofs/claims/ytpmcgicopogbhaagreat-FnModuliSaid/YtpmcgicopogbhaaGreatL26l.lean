/- Chapter 26: the height of a layout. Conditions: as stated at each contract. -/
import Derived.Test.YtpmcgicopogbhaaGreatProg
import Derived.Test.YtpmcgicopogbhaaGreatBase
import Derived.Test.YtpmcgicopogbhaaGreatRw
import Derived.Test.YtpmcgicopogbhaaGreatL01
import Derived.Test.YtpmcgicopogbhaaGreatCp
import Derived.Test.YtpmcgicopogbhaaGreatL18
import Derived.Test.YtpmcgicopogbhaaGreatL23
import Derived.Test.YtpmcgicopogbhaaGreatL03
import Derived.Test.YtpmcgicopogbhaaGreatL04
import Derived.Test.YtpmcgicopogbhaaGreatL23d
import Derived.Test.YtpmcgicopogbhaaGreatL23e
import Derived.Test.YtpmcgicopogbhaaGreatL24
import Derived.Test.YtpmcgicopogbhaaGreatL24b
import Derived.Test.YtpmcgicopogbhaaGreatL24c
import Derived.Test.YtpmcgicopogbhaaGreatL24f
import Derived.Test.YtpmcgicopogbhaaGreatL24g
import Derived.Test.YtpmcgicopogbhaaGreatL24r
import Derived.Test.YtpmcgicopogbhaaGreatL23g
import Derived.Test.YtpmcgicopogbhaaGreatL23h
import Derived.Test.YtpmcgicopogbhaaGreatL26a
import Derived.Test.YtpmcgicopogbhaaGreatL26b
import Derived.Test.YtpmcgicopogbhaaGreatL26h
import Derived.Test.YtpmcgicopogbhaaGreatL26j
import Derived.Test.YtpmcgicopogbhaaGreatL26k
import Derived.WalkKit
import Derived.WalkSpells
import Derived.WalkLawsBesides
import Derived.Lib.Hide
import Derived.Deep.QuietTactic
import Derived.BigQuiet
import Derived.Deep.Draws
import Derived.Deep.RegionHeld3
import Derived.Test.YtpmcgicopogbhaaGreatRg
import Derived.Test.YtpmcgicopogbhaaGreatL23b
import Derived.Test.YtpmcgicopogbhaaGreatL26c
import Derived.Deep.Cut
namespace Go.Proofs.YtpmcgicopogbhaaGreat
open Go.RowKit
set_option linter.unusedVariables false
set_option linter.unusedSimpArgs false
def heC (C : Ch) (us vs : List (Int × Int)) : Int := if lyC C us vs 0 = 0 then htC C us vs else lyC C us vs 0
def heV (C : Ch) (us vs : List (Int × Int)) : Int := if lyC C us vs 0 = 0 then htV C us vs else 0
theorem he_0 {C : Ch} {us vs : List (Int × Int)} (h : lyC C us vs 0 = 0) : heC C us vs = htC C us vs ∧ heV C us vs = htV C us vs := by simp [heC, heV, h]
theorem he_no {C : Ch} {us vs : List (Int × Int)} (h : lyC C us vs 0 ≠ 0) : heC C us vs = lyC C us vs 0 ∧ heV C us vs = 0 := by simp [heC, heV, h]
set_option maxHeartbeats 2000000 in
theorem HeightOf_I (C : Ch) (A : Option Addr) (c : Nat) (D : Option Addr) (d : Nat) (us : List (Int × Int)) (E : Option Addr) (f : Nat) (vs : List (Int × Int)) (hn : C.zs.length ≤ 1048576) (hm : C.nm.size ≤ 1048576) (hu : us.length ≤ 1048576) (hv : vs.length ≤ 1048576) (w : World) (hA : Ints w A C.zs) (hD : Prs w D us) (hE : Prs w E vs) :
    Calls Tryz.prog 43 #[.agg #[.int .i64 C.dg, .int .i64 C.tn, .string C.nm, .slice A C.zs.length c, .int .i64 C.wd, .int .i64 C.lf, .int .i64 C.rt], .slice D us.length d, .slice E vs.length f] w fun r w' => r = .returned (.tuple #[.int .i64 (heV C us vs), .int .i64 (heC C us vs)]) ∧ Below w.heap.size w w' := by
  have HI := Lib.hid hA
  have HD := Lib.hid hD
  have HE := Lib.hid hE
  clear hA hD hE
  go_enter Tryz.func43, Tryz.ntmps43
  go_wp2_with fail
  go_at_call 80; refine (checkSamples_c _ _ _ _ _ us _ _ vs 0 hn hm hu hv _ (by repeat (with_reducible first | exact HI.out | assumption | refine Ints.drew ?_ | refine Ints.drewN _ ?_ | refine Ints.alloc _ ?_ | refine Ints.step (by assumption) ?_)) (by repeat (with_reducible first | exact HD.out | assumption | refine Prs.drew ?_ | refine Prs.drewN _ ?_ | refine Prs.alloc _ ?_ | refine Prs.step (by assumption) ?_)) (by repeat (with_reducible first | exact HE.out | assumption | refine Prs.drew ?_ | refine Prs.drewN _ ?_ | refine Prs.alloc _ ?_ | refine Prs.step (by assumption) ?_))).mono ?_; rintro r w1 ⟨rfl, hb1⟩
  have HC1 : Blk w1 w.heap.size 30 #[.int .i64 C.dg, .int .i64 C.tn, .string C.nm, .slice A C.zs.length c, .int .i64 C.wd, .int .i64 C.lf, .int .i64 C.rt] := Blk.step hb1 (Blk.new _ _ _)
  have hbel1 : Below w.heap.size w w1 := by repeat (with_reducible first | exact Below.refl _ _ | assumption | refine Bel.alloc ?_ _ | refine Bel.step (by assumption) ?_ | refine Below.drew ?_ | refine Bel.drewN ?_ _ | refine Below.setCell ?_ (by first | exact Nat.le_refl _ | omega | (simp; done) | (simp; omega)) _)
  clear hb1
  by_cases hk : lyC C us vs 0 = 0
  rotate_left
  · have HK := Lib.hid (he_no hk)
    have b1 : (lyC C us vs 0 != 0) = true := by simpa using hk
    clear hk
    go_wp2
    go_ret2
    exact ⟨by rw [HK.out.1, HK.out.2]; rfl, by repeat (with_reducible first | exact Below.refl _ _ | assumption | refine Bel.alloc ?_ _ | refine Bel.step (by assumption) ?_ | refine Below.drew ?_ | refine Bel.drewN ?_ _ | refine Below.setCell ?_ (by first | exact Nat.le_refl _ | omega | (simp; done) | (simp; omega)) _)⟩
  have HK := Lib.hid (he_0 hk)
  have HY := Lib.hid (lyC_0 hk)
  rw [hk]
  clear hk
  have p0 : w1.cell? ⟨w.heap.size, 0, none⟩ = some (.int .i64 C.dg) := by rw [HC1.cell]; rfl
  have p1 : w1.cell? ⟨w.heap.size, 1, none⟩ = some (.int .i64 C.tn) := by rw [HC1.cell]; rfl
  have p2 : w1.cell? ⟨w.heap.size, 2, none⟩ = some (.string C.nm) := by rw [HC1.cell]; rfl
  have p3 : w1.cell? ⟨w.heap.size, 3, none⟩ = some (.slice A C.zs.length c) := by rw [HC1.cell]; rfl
  have p4 : w1.cell? ⟨w.heap.size, 4, none⟩ = some (.int .i64 C.wd) := by rw [HC1.cell]; rfl
  have p5 : w1.cell? ⟨w.heap.size, 5, none⟩ = some (.int .i64 C.lf) := by rw [HC1.cell]; rfl
  have p6 : w1.cell? ⟨w.heap.size, 6, none⟩ = some (.int .i64 C.rt) := by rw [HC1.cell]; rfl
  clear HC1
  go_wp2_with fail
  go_at_call 84; refine (heightOf_c _ _ _ _ _ us _ _ vs hn hm HY.out.1 HY.out.2.1 HY.out.2.2.1 HY.out.2.2.2.1.1 HY.out.2.2.2.1.2 HY.out.2.2.2.2.1.1 HY.out.2.2.2.2.1.2 _ (by repeat (with_reducible first | exact HI.out | assumption | refine Ints.drew ?_ | refine Ints.drewN _ ?_ | refine Ints.alloc _ ?_ | refine Ints.step (by assumption) ?_)) (by repeat (with_reducible first | exact HD.out | assumption | refine Prs.drew ?_ | refine Prs.drewN _ ?_ | refine Prs.alloc _ ?_ | refine Prs.step (by assumption) ?_)) (by repeat (with_reducible first | exact HE.out | assumption | refine Prs.drew ?_ | refine Prs.drewN _ ?_ | refine Prs.alloc _ ?_ | refine Prs.step (by assumption) ?_))).mono ?_; rintro r w2 ⟨rfl, hb2⟩
  have hbel2 : Below w.heap.size w w2 := by repeat (with_reducible first | exact Below.refl _ _ | assumption | refine Bel.alloc ?_ _ | refine Bel.step (by assumption) ?_ | refine Below.drew ?_ | refine Bel.drewN ?_ _ | refine Below.setCell ?_ (by first | exact Nat.le_refl _ | omega | (simp; done) | (simp; omega)) _)
  clear hb2 p0 p1 p2 p3 p4 p5 p6
  go_wp2
  go_ret2
  exact ⟨by rw [HK.out.1, HK.out.2]; rfl, hbel2⟩
open Go.RowKit
set_option linter.unusedVariables false
set_option linter.unusedSimpArgs false
def mC (C : Ch) (a b : Int) : Ch := { C with lf := a, rt := b }
theorem mC_ok {C : Ch} {a b : Int} (h : okCh C = true) (ha : inB a 100 20000 = true) (hb : inB b 100 20000 = true) : okCh (mC C a b) = true := by
  have h5 : okFm (mC C a b) = okFm C := rfl
  simp only [okCh, Bool.and_eq_true] at h ⊢
  refine ⟨⟨⟨⟨by rw [h5]; exact h.1.1.1.1, h.1.1.1.2⟩, h.1.1.2⟩, ha⟩, hb⟩
/-- One trial: the better of the best so far and this pair. -/
def bmS (C : Ch) (us vs : List (Int × Int)) (e most a : Int) (s : Int × Int × Int) (b : Int) : Int × Int × Int :=
  if (htC (mC C a b) us vs = 0 ∧ wC (mC C a b) us vs = 0 ∧ htV (mC C a b) us vs ≤ most) ∧ (s.2.2 < 0 ∨ (wV (mC C a b) us vs e).1 < s.2.2) then (a, b, (wV (mC C a b) us vs e).1) else s
def bmR (C : Ch) (us vs : List (Int × Int)) (e most : Int) (ms : List Int) (s : Int × Int × Int) (a : Int) : Int × Int × Int := ms.foldl (bmS C us vs e most a) s
def bmT (C : Ch) (us vs : List (Int × Int)) (e most : Int) (ms : List Int) : Int × Int × Int := ms.foldl (bmR C us vs e most ms) (0, 0, -1)
def msOk (ms : List Int) : Bool := ms.all fun m => inB m 100 20000
def bmG (ms : List Int) (most : Int) : Bool := decide (ms.length ≤ 8) && inB most 0 100000 && msOk ms
def bmC (C : Ch) (us vs : List (Int × Int)) (e most : Int) (ms : List Int) : Int :=
  if lyC C us vs e ≠ 0 then lyC C us vs e else if bmG ms most = false then 2 else if (bmT C us vs e most ms).2.2 < 0 then 4 else 0
def bmV (C : Ch) (us vs : List (Int × Int)) (e most : Int) (ms : List Int) : Int × Int :=
  if bmC C us vs e most ms = 0 then ((bmT C us vs e most ms).1, (bmT C us vs e most ms).2.1) else (0, 0)
theorem foldl_step {α β : Type} (f : β → α → β) (s : β) {l : List α} {k : Nat} (hk : k < l.length) : (l.take (k + 1)).foldl f s = f ((l.take k).foldl f s) l[k] := by
  rw [List.take_succ_eq_append_getElem hk, List.foldl_append]
  rfl
theorem bm_ly {C : Ch} {us vs : List (Int × Int)} {e most : Int} {ms : List Int} (h : lyC C us vs e ≠ 0) : bmC C us vs e most ms = lyC C us vs e ∧ bmV C us vs e most ms = (0, 0) := by
  have h1 : bmC C us vs e most ms = lyC C us vs e := by simp [bmC, h]
  exact ⟨h1, by simp [bmV, h1, h]⟩
theorem bm_2 {C : Ch} {us vs : List (Int × Int)} {e most : Int} {ms : List Int} (h : lyC C us vs e = 0) (hg : bmG ms most = false) : bmC C us vs e most ms = 2 ∧ bmV C us vs e most ms = (0, 0) := by
  have h1 : bmC C us vs e most ms = 2 := by simp [bmC, h, hg]
  exact ⟨h1, by simp [bmV, h1]⟩
theorem bm_4 {C : Ch} {us vs : List (Int × Int)} {e most : Int} {ms : List Int} (h : lyC C us vs e = 0) (hg : bmG ms most = true) (hn : (bmT C us vs e most ms).2.2 < 0) : bmC C us vs e most ms = 4 ∧ bmV C us vs e most ms = (0, 0) := by
  have h1 : bmC C us vs e most ms = 4 := by simp [bmC, h, hg, hn]
  exact ⟨h1, by simp [bmV, h1]⟩
theorem bm_0 {C : Ch} {us vs : List (Int × Int)} {e most : Int} {ms : List Int} (h : lyC C us vs e = 0) (hg : bmG ms most = true) (hn : ¬ (bmT C us vs e most ms).2.2 < 0) : bmC C us vs e most ms = 0 ∧ bmV C us vs e most ms = ((bmT C us vs e most ms).1, (bmT C us vs e most ms).2.1) := by
  have h1 : bmC C us vs e most ms = 0 := by simp only [bmC, h, hg]; simp [hn]
  exact ⟨h1, by simp [bmV, h1]⟩
theorem msOk_step {ms : List Int} {k : Nat} (hk : k < ms.length) : msOk (ms.take (k + 1)) = (msOk (ms.take k) && inB ms[k] 100 20000) := by
  unfold msOk
  rw [List.take_succ_eq_append_getElem hk, List.all_append]
  simp
theorem bmS_yes {C : Ch} {us vs : List (Int × Int)} {e most a b : Int} {s : Int × Int × Int} (h1 : htC (mC C a b) us vs = 0) (h2 : wC (mC C a b) us vs = 0) (h3 : htV (mC C a b) us vs ≤ most) (h4 : s.2.2 < 0 ∨ (wV (mC C a b) us vs e).1 < s.2.2) :
    bmS C us vs e most a s b = (a, b, (wV (mC C a b) us vs e).1) := by unfold bmS; rw [if_pos ⟨⟨h1, h2, h3⟩, h4⟩]
theorem bmS_no {C : Ch} {us vs : List (Int × Int)} {e most a b : Int} {s : Int × Int × Int} (h : ¬ ((htC (mC C a b) us vs = 0 ∧ wC (mC C a b) us vs = 0 ∧ htV (mC C a b) us vs ≤ most) ∧ (s.2.2 < 0 ∨ (wV (mC C a b) us vs e).1 < s.2.2))) :
    bmS C us vs e most a s b = s := by unfold bmS; rw [if_neg h]
set_option maxRecDepth 50000 in
set_option maxHeartbeats 4000000 in
theorem BestModuli_S (C : Ch) (A : Option Addr) (c : Nat) (M : Option Addr) (m : Nat) (ms : List Int) (D : Option Addr) (d : Nat) (us : List (Int × Int)) (E : Option Addr) (f : Nat) (vs : List (Int × Int)) (e most : Int) (hn : C.zs.length ≤ 1048576) (hm : C.nm.size ≤ 1048576) (hx : ms.length ≤ 1048576) (hu : us.length ≤ 1048576) (hv : vs.length ≤ 1048576) (w : World) (hA : Ints w A C.zs) (hM : Ints w M ms) (hD : Prs w D us) (hE : Prs w E vs) :
    Calls Tryz.prog 28 #[.agg #[.int .i64 C.dg, .int .i64 C.tn, .string C.nm, .slice A C.zs.length c, .int .i64 C.wd, .int .i64 C.lf, .int .i64 C.rt], .slice M ms.length m, .slice D us.length d, .slice E vs.length f, .int .i64 e, .int .i64 most] w fun r w' => r = .returned (.tuple #[.int .i64 (bmV C us vs e most ms).1, .int .i64 (bmV C us vs e most ms).2, .int .i64 (bmC C us vs e most ms)]) ∧ Below w.heap.size w w' := by
  have HI := Lib.hid hA
  have HM := Lib.hid hM
  have HD := Lib.hid hD
  have HE := Lib.hid hE
  clear hA hM hD hE
  go_enter Tryz.func28, Tryz.ntmps28
  go_wp2_with fail
  go_at_call 86; refine (l26Code_c _ _ _ _ _ us _ _ vs e hn hm hu hv _ (by repeat (with_reducible first | exact HI.out | assumption | refine Ints.drew ?_ | refine Ints.drewN _ ?_ | refine Ints.alloc _ ?_ | refine Ints.step (by assumption) ?_)) (by repeat (with_reducible first | exact HD.out | assumption | refine Prs.drew ?_ | refine Prs.drewN _ ?_ | refine Prs.alloc _ ?_ | refine Prs.step (by assumption) ?_)) (by repeat (with_reducible first | exact HE.out | assumption | refine Prs.drew ?_ | refine Prs.drewN _ ?_ | refine Prs.alloc _ ?_ | refine Prs.step (by assumption) ?_))).mono ?_; rintro r w1 ⟨rfl, hb1⟩
  have HC1 : Blk w1 w.heap.size 30 #[.int .i64 C.dg, .int .i64 C.tn, .string C.nm, .slice A C.zs.length c, .int .i64 C.wd, .int .i64 C.lf, .int .i64 C.rt] := Blk.step hb1 (Blk.new _ _ _)
  have hbel1 : Below w.heap.size w w1 := by repeat (with_reducible first | exact Below.refl _ _ | assumption | refine Bel.alloc ?_ _ | refine Bel.step (by assumption) ?_ | refine Below.drew ?_ | refine Bel.drewN ?_ _ | refine Below.setCell ?_ (by first | exact Nat.le_refl _ | omega | (simp; done) | (simp; omega)) _)
  have HC1 := Lib.hid HC1
  clear hb1
  obtain ⟨g0, hg0⟩ : ∃ g : Bool, g = (decide (ms.length ≤ 8) && inB most 0 100000) := ⟨_, rfl⟩
  obtain ⟨code, hcode⟩ : ∃ z, z = lyC C us vs e := ⟨_, rfl⟩
  rw [← hcode]
  have HCo := Lib.hid hcode
  clear hcode
  have HG0 := Lib.hid hg0
  clear hg0
  by_cases h8 : ms.length ≤ 8
  rotate_left
  · have HB := Lib.hid (show bmG ms most = false by simp [bmG, h8])
    go_wp2
    go_loopw [16, 17] (fun g i wr => ∃ k : Nat, k ≤ ms.length ∧ i = .int .i64 k ∧ g = .bool false ∧ Below w.heap.size w wr) (fun _ i _ => ms.length - (intOf i).toNat)
    case atStart => exact ⟨0, Nat.zero_le _, rfl, rfl, hbel1⟩
    case round =>
      clear HC1 hbel1
      obtain ⟨k, hk, rfl, rfl, hbel⟩ := hrel
      by_cases hlt : k < ms.length
      · go_wp2
        go_roundw
        case rel => exact ⟨k + 1, by omega, by go_num, rfl, hbel⟩
        case measure => simp [intOf]; omega
      · obtain rfl : k = ms.length := by omega
        by_cases hc : code = 0
        · have HT := Lib.hid (bm_2 (C := C) (us := us) (vs := vs) (e := e) (by rw [← HCo.out]; exact hc) HB.out)
          go_wp2
          refine bodyPost_ret (results_three rfl _ _ _) rfl ⟨by rw [HT.out.1, HT.out.2]; rfl, by repeat (with_reducible first | exact Below.refl _ _ | assumption | refine Bel.alloc ?_ _ | refine Bel.step (by assumption) ?_ | refine Below.drew ?_ | refine Bel.drewN ?_ _ | refine Below.setCell ?_ (by first | exact Nat.le_refl _ | omega | (simp; done) | (simp; omega)) _)⟩
        · have HT := Lib.hid (bm_ly (C := C) (us := us) (vs := vs) (e := e) (most := most) (ms := ms) (by rw [← HCo.out]; exact hc))
          rw [← HCo.out] at HT
          have b1 : (code != 0) = true := by simpa using hc
          have b2 : (code == 0) = false := by simpa using hc
          go_wp2
          refine bodyPost_ret (results_three rfl _ _ _) rfl ⟨by rw [HT.out.1, HT.out.2]; rfl, by repeat (with_reducible first | exact Below.refl _ _ | assumption | refine Bel.alloc ?_ _ | refine Bel.step (by assumption) ?_ | refine Below.drew ?_ | refine Bel.drewN ?_ _ | refine Below.setCell ?_ (by first | exact Nat.le_refl _ | omega | (simp; done) | (simp; omega)) _)⟩
  go_wp2_with fail
  go_at_call 55; refine (l01In_c _ _ _ _).mono ?_; rintro e w' ⟨rfl, rfl⟩
  have HC2 := HC1
  have hbel2 := hbel1
  clear HC1 hbel1
  have HB := Lib.hid (show bmG ms most = (inB most 0 100000 && msOk ms) by simp [bmG, h8])
  generalize hmq : inB most 0 100000 = gm at *
  clear hmq
  go_wp2
  go_loopw [16, 17] (fun g i wr => ∃ k : Nat, k ≤ ms.length ∧ i = .int .i64 k ∧ g = .bool (gm && msOk (ms.take k)) ∧ Hid (Blk wr w.heap.size 30 #[.int .i64 C.dg, .int .i64 C.tn, .string C.nm, .slice A C.zs.length c, .int .i64 C.wd, .int .i64 C.lf, .int .i64 C.rt]) ∧ Below w.heap.size w wr) (fun _ i _ => ms.length - (intOf i).toNat)
  case atStart => exact ⟨0, Nat.zero_le _, rfl, by simp [msOk], HC2, hbel2⟩
  case round =>
    clear HC2 hbel2
    obtain ⟨k, hk, rfl, rfl, HC, hbel⟩ := hrel
    by_cases hlt : k < ms.length
    · obtain ⟨bm, om, e', hbm, cm⟩ := (Ints.step hbel HM.out).at_ k hlt
      have HS := Lib.hid (msOk_step hlt)
      have clt := HC.out.lt
      subst e'
      generalize ms[k] = z at *
      cases hg : (gm && msOk (ms.take k))
      · have HN := Lib.hid (show (gm && msOk (ms.take (k + 1))) = false by rw [HS.out, ← Bool.and_assoc, hg]; rfl)
        clear hg
        go_wp2
        go_roundw
        case rel => exact ⟨k + 1, by omega, by go_num, by rw [HN.out], HC, hbel⟩
        case measure => simp [intOf]; omega
      · have HN := Lib.hid (show (gm && msOk (ms.take (k + 1))) = inB z 100 20000 by rw [HS.out, ← Bool.and_assoc, hg]; rfl)
        clear hg
        go_wp2_with fail
        go_at_call 55; refine (l01In_c _ _ _ _).mono ?_; rintro e w' ⟨rfl, rfl⟩
        go_wp2
        go_roundw
        case rel => exact ⟨k + 1, by omega, by go_num, by rw [HN.out], HC, hbel⟩
        case measure => simp [intOf]; omega
    obtain rfl : k = ms.length := by omega
    rw [List.take_length]
    by_cases hc : code = 0
    rotate_left
    · have HT := Lib.hid (bm_ly (C := C) (us := us) (vs := vs) (e := e) (most := most) (ms := ms) (by rw [← HCo.out]; exact hc))
      rw [← HCo.out] at HT
      have b1 : (code != 0) = true := by simpa using hc
      have b2 : (code == 0) = false := by simpa using hc
      go_wp2
      refine bodyPost_ret (results_three rfl _ _ _) rfl ⟨by rw [HT.out.1, HT.out.2]; rfl, by repeat (with_reducible first | exact Below.refl _ _ | assumption | refine Bel.alloc ?_ _ | refine Bel.step (by assumption) ?_ | refine Below.drew ?_ | refine Bel.drewN ?_ _ | refine Below.setCell ?_ (by first | exact Nat.le_refl _ | omega | (simp; done) | (simp; omega)) _)⟩
    have HL := Lib.hid (show lyC C us vs e = 0 by rw [← HCo.out]; exact hc)
    subst hc
    cases hg : (gm && msOk ms)
    · have HT := Lib.hid (bm_2 HL.out (HB.out.trans hg))
      clear hg
      go_wp2
      refine bodyPost_ret (results_three rfl _ _ _) rfl ⟨by rw [HT.out.1, HT.out.2]; rfl, by repeat (with_reducible first | exact Below.refl _ _ | assumption | refine Bel.alloc ?_ _ | refine Bel.step (by assumption) ?_ | refine Below.drew ?_ | refine Bel.drewN ?_ _ | refine Below.setCell ?_ (by first | exact Nat.le_refl _ | omega | (simp; done) | (simp; omega)) _)⟩
    have HGo := Lib.hid (HB.out.trans hg)
    have HMs := Lib.hid (show msOk ms = true by simp only [Bool.and_eq_true] at hg; exact hg.2)
    clear hg
    have HY := Lib.hid (lyC_0 HL.out)
    clear hk hlt
    go_wp2
    go_loopw [18, 19, 20, 21, 22, 23, 24, 25, 26, 27, 28, 29] (fun x y z i _ _ _ _ _ _ _ _ wr => ∃ k : Nat, k ≤ ms.length ∧ i = .int .i64 k ∧ x = .int .i64 ((ms.take k).foldl (bmR C us vs e most ms) (0, 0, -1)).1 ∧ y = .int .i64 ((ms.take k).foldl (bmR C us vs e most ms) (0, 0, -1)).2.1 ∧ z = .int .i64 ((ms.take k).foldl (bmR C us vs e most ms) (0, 0, -1)).2.2 ∧ Hid (Blk wr w.heap.size 30 #[.int .i64 C.dg, .int .i64 C.tn, .string C.nm, .slice A C.zs.length c, .int .i64 C.wd, .int .i64 C.lf, .int .i64 C.rt]) ∧ Below w.heap.size w wr) (fun _ _ _ i _ _ _ _ _ _ _ _ _ => ms.length - (intOf i).toNat)
    case atStart => exact ⟨0, Nat.zero_le _, rfl, rfl, rfl, rfl, HC, hbel⟩
    case round =>
      clear HC hbel
      obtain ⟨k, hk, rfl, rfl, rfl, rfl, HC, hbel⟩ := hrel
      by_cases hlt : k < ms.length
      rotate_left
      · obtain rfl : k = ms.length := by omega
        rw [List.take_length]
        by_cases hn4 : (bmT C us vs e most ms).2.2 < 0
        · have HT := Lib.hid (bm_4 HL.out HGo.out hn4)
          rw [show (ms.foldl (bmR C us vs e most ms) (0, 0, -1)) = bmT C us vs e most ms from rfl]
          generalize bmT C us vs e most ms = t at *
          go_wp2
          refine bodyPost_ret (results_three rfl _ _ _) rfl ⟨by rw [HT.out.1, HT.out.2]; rfl, by repeat (with_reducible first | exact Below.refl _ _ | assumption | refine Bel.alloc ?_ _ | refine Bel.step (by assumption) ?_ | refine Below.drew ?_ | refine Bel.drewN ?_ _ | refine Below.setCell ?_ (by first | exact Nat.le_refl _ | omega | (simp; done) | (simp; omega)) _)⟩
        · have HT := Lib.hid (bm_0 HL.out HGo.out hn4)
          rw [show (ms.foldl (bmR C us vs e most ms) (0, 0, -1)) = bmT C us vs e most ms from rfl]
          generalize bmT C us vs e most ms = t at *
          go_wp2
          refine bodyPost_ret (results_three rfl _ _ _) rfl ⟨by rw [HT.out.1, HT.out.2]; rfl, by repeat (with_reducible first | exact Below.refl _ _ | assumption | refine Bel.alloc ?_ _ | refine Bel.step (by assumption) ?_ | refine Below.drew ?_ | refine Bel.drewN ?_ _ | refine Below.setCell ?_ (by first | exact Nat.le_refl _ | omega | (simp; done) | (simp; omega)) _)⟩
      have HK := Lib.hid (foldl_step (bmR C us vs e most ms) (0, 0, -1) hlt)
      generalize (ms.take k).foldl (bmR C us vs e most ms) (0, 0, -1) = s at *
      go_wp2
      go_loopw [18, 19, 20, 22, 23, 24, 25, 26, 27, 28, 29] (fun x y z i _ _ _ _ _ _ _ wr => ∃ l : Nat, l ≤ ms.length ∧ i = .int .i64 l ∧ x = .int .i64 ((ms.take l).foldl (bmS C us vs e most ms[k]) s).1 ∧ y = .int .i64 ((ms.take l).foldl (bmS C us vs e most ms[k]) s).2.1 ∧ z = .int .i64 ((ms.take l).foldl (bmS C us vs e most ms[k]) s).2.2 ∧ Hid (Blk wr w.heap.size 30 #[.int .i64 C.dg, .int .i64 C.tn, .string C.nm, .slice A C.zs.length c, .int .i64 C.wd, .int .i64 C.lf, .int .i64 C.rt]) ∧ Below w.heap.size w wr) (fun _ _ _ i _ _ _ _ _ _ _ _ => ms.length - (intOf i).toNat)
      case atStart => exact ⟨0, Nat.zero_le _, rfl, rfl, rfl, rfl, HC, hbel⟩
      case round =>
        clear HC hbel
        obtain ⟨l, hl, rfl, rfl, rfl, rfl, HC, hbel⟩ := hrel
        by_cases hlt2 : l < ms.length
        rotate_left
        · obtain rfl : l = ms.length := by omega
          rw [List.take_length]
          have HR := Lib.hid (show (ms.take (k + 1)).foldl (bmR C us vs e most ms) (0, 0, -1) = ms.foldl (bmS C us vs e most ms[k]) s from HK.out)
          generalize ms.foldl (bmS C us vs e most ms[k]) s = t at *
          go_wp2
          go_roundw
          case rel => exact ⟨k + 1, by omega, by go_num, by rw [HR.out], by rw [HR.out], by rw [HR.out], HC, hbel⟩
          case measure => simp [intOf]; omega
        have HZ := Lib.hid (foldl_step (bmS C us vs e most ms[k]) s hlt2)
        have HAk := Lib.hid (List.all_eq_true.1 HMs.out _ (List.getElem_mem hlt))
        have HBl := Lib.hid (List.all_eq_true.1 HMs.out _ (List.getElem_mem hlt2))
        obtain ⟨bm, om, e1, hbm, ck⟩ := (Ints.step hbel HM.out).at_ k hlt
        obtain ⟨bm', om', e2, hbm', cl⟩ := (Ints.step hbel HM.out).at_ l hlt2
        subst e1
        cases e2
        clear HK
        have HMk := Lib.hid (fun (W : World) (hW : Below w.heap.size w W) => (Ints.step hW HM.out).at_ k hlt)
        have HMl := Lib.hid (fun (W : World) (hW : Below w.heap.size w W) => (Ints.step hW HM.out).at_ l hlt2)
        generalize ms[k] = a at *
        generalize ms[l] = b at *
        generalize (ms.take l).foldl (bmS C us vs e most a) s = t at *
        have HOk := Lib.hid (mC_ok HY.out.1 HAk.out HBl.out)
        have p0 : wr.cell? ⟨w.heap.size, 0, none⟩ = some (.int .i64 C.dg) := by rw [HC.out.cell]; rfl
        have p1 : wr.cell? ⟨w.heap.size, 1, none⟩ = some (.int .i64 C.tn) := by rw [HC.out.cell]; rfl
        have p2 : wr.cell? ⟨w.heap.size, 2, none⟩ = some (.string C.nm) := by rw [HC.out.cell]; rfl
        have p3 : wr.cell? ⟨w.heap.size, 3, none⟩ = some (.slice A C.zs.length c) := by rw [HC.out.cell]; rfl
        have p4 : wr.cell? ⟨w.heap.size, 4, none⟩ = some (.int .i64 C.wd) := by rw [HC.out.cell]; rfl
        have p5 : wr.cell? ⟨w.heap.size, 5, none⟩ = some (.int .i64 C.lf) := by rw [HC.out.cell]; rfl
        have p6 : wr.cell? ⟨w.heap.size, 6, none⟩ = some (.int .i64 C.rt) := by rw [HC.out.cell]; rfl
        have clt := HC.out.lt
        have HC0 := Lib.hid HC.out
        clear HC
        go_wp2
        go_region_held3 (fun w' => (w'.cell? ⟨w.heap.size, 0, none⟩ = some (.int .i64 C.dg) ∧ w'.cell? ⟨w.heap.size, 1, none⟩ = some (.int .i64 C.tn) ∧ w'.cell? ⟨w.heap.size, 2, none⟩ = some (.string C.nm) ∧ w'.cell? ⟨w.heap.size, 3, none⟩ = some (.slice A C.zs.length c) ∧ w'.cell? ⟨w.heap.size, 4, none⟩ = some (.int .i64 C.wd) ∧ w'.cell? ⟨w.heap.size, 5, none⟩ = some (.int .i64 C.lf) ∧ w'.cell? ⟨w.heap.size, 6, none⟩ = some (.int .i64 C.rt)) ∧ w'.cell? ⟨bm, om + k, none⟩ = some (.int .i64 a) ∧ w'.cell? ⟨bm, om + l, none⟩ = some (.int .i64 b)) (simp [go_sem, *]) (fail)
        have HCx : Blk ((wr.alloc (.cells #[.int .i64 (mC C a b).dg, .int .i64 (mC C a b).tn, .string (mC C a b).nm, .slice A (mC C a b).zs.length c, .int .i64 (mC C a b).wd, .int .i64 (mC C a b).lf, .int .i64 (mC C a b).rt] 30)).drew) wr.heap.size 30 #[.int .i64 (mC C a b).dg, .int .i64 (mC C a b).tn, .string (mC C a b).nm, .slice A (mC C a b).zs.length c, .int .i64 (mC C a b).wd, .int .i64 (mC C a b).lf, .int .i64 (mC C a b).rt] := Blk.drew (Blk.new wr _ _)
        have HC4 : Blk ((wr.alloc (.cells #[.int .i64 (mC C a b).dg, .int .i64 (mC C a b).tn, .string (mC C a b).nm, .slice A (mC C a b).zs.length c, .int .i64 (mC C a b).wd, .int .i64 (mC C a b).lf, .int .i64 (mC C a b).rt] 30)).drew) w.heap.size 30 #[.int .i64 C.dg, .int .i64 C.tn, .string C.nm, .slice A C.zs.length c, .int .i64 C.wd, .int .i64 C.lf, .int .i64 C.rt] := Blk.drew (Blk.alloc (.cells #[.int .i64 (mC C a b).dg, .int .i64 (mC C a b).tn, .string (mC C a b).nm, .slice A (mC C a b).zs.length c, .int .i64 (mC C a b).wd, .int .i64 (mC C a b).lf, .int .i64 (mC C a b).rt] 30) HC0.out)
        have hbel4 : Below w.heap.size w ((wr.alloc (.cells #[.int .i64 (mC C a b).dg, .int .i64 (mC C a b).tn, .string (mC C a b).nm, .slice A (mC C a b).zs.length c, .int .i64 (mC C a b).wd, .int .i64 (mC C a b).lf, .int .i64 (mC C a b).rt] 30)).drew) := by repeat (with_reducible first | exact Below.refl _ _ | assumption | refine Bel.alloc ?_ _ | refine Bel.step (by assumption) ?_ | refine Below.drew ?_ | refine Bel.drewN ?_ _ | refine Below.setCell ?_ (by first | exact Nat.le_refl _ | omega | (simp; done) | (simp; omega)) _)
        have HOl := Lib.hid HCx
        clear p0 p1 p2 p3 p4 p5 p6 ck cl hbm hbm' clt
        have q0 : ((wr.alloc (.cells #[.int .i64 (mC C a b).dg, .int .i64 (mC C a b).tn, .string (mC C a b).nm, .slice A (mC C a b).zs.length c, .int .i64 (mC C a b).wd, .int .i64 (mC C a b).lf, .int .i64 (mC C a b).rt] 30)).drew).cell? ⟨wr.heap.size, 0, none⟩ = some (.int .i64 C.dg) := by rw [HCx.cell]; rfl
        have HI4 := Lib.hid (Ints.step hbel4 HI.out)
        have HD4 := Lib.hid (Prs.step hbel4 HD.out)
        have HE4 := Lib.hid (Prs.step hbel4 HE.out)
        go_wp2_with fail
        go_at_call 87; refine (l26Height_c (mC C a b) A c _ _ us _ _ vs hn hm HOk.out HY.out.2.1 HY.out.2.2.1 HY.out.2.2.2.1.1 HY.out.2.2.2.1.2 HY.out.2.2.2.2.1.1 HY.out.2.2.2.2.1.2 _ HI4.out HD4.out HE4.out).mono ?_; rintro r w5 ⟨rfl, hb5⟩
        have HCx5 := Blk.step hb5 HCx
        have HC5 := Blk.step hb5 HC4
        have hbel5 := Bel.step hb5 hbel4
        have HI5 := Lib.hid (Ints.step hbel5 HI.out)
        have HD5 := Lib.hid (Prs.step hbel5 HD.out)
        have HE5 := Lib.hid (Prs.step hbel5 HE.out)
        clear hb5 HCx HC4 hbel4 HI4 HD4 HE4 HOl q0
        generalize wr.heap.size = X at HCx5 ⊢
        have p0 : w5.cell? ⟨X, 0, none⟩ = some (.int .i64 (mC C a b).dg) := by rw [HCx5.cell]; rfl
        have p1 : w5.cell? ⟨X, 1, none⟩ = some (.int .i64 (mC C a b).tn) := by rw [HCx5.cell]; rfl
        have p2 : w5.cell? ⟨X, 2, none⟩ = some (.string (mC C a b).nm) := by rw [HCx5.cell]; rfl
        have p3 : w5.cell? ⟨X, 3, none⟩ = some (.slice A (mC C a b).zs.length c) := by rw [HCx5.cell]; rfl
        have p4 : w5.cell? ⟨X, 4, none⟩ = some (.int .i64 (mC C a b).wd) := by rw [HCx5.cell]; rfl
        have p5 : w5.cell? ⟨X, 5, none⟩ = some (.int .i64 (mC C a b).lf) := by rw [HCx5.cell]; rfl
        have p6 : w5.cell? ⟨X, 6, none⟩ = some (.int .i64 (mC C a b).rt) := by rw [HCx5.cell]; rfl
        go_wp2_with fail
        go_at_call 88; refine (l26Worst_c (mC C a b) A c _ _ us _ _ vs e hn hm HOk.out HY.out.2.1 HY.out.2.2.1 HY.out.2.2.2.1.2 HY.out.2.2.2.2.1.2 HY.out.2.2.2.2.2.1 HY.out.2.2.2.2.2.2 _ HI5.out HD5.out HE5.out).mono ?_; rintro r w6 ⟨rfl, hb6⟩
        have HC6 := Lib.hid (Blk.step hb6 HC5)
        have hbel6 := Bel.step hb6 hbel5
        clear hb6 HC5 hbel5 HCx5 HI5 HD5 HE5 p0 p1 p2 p3 p4 p5 p6
        have HGx := Lib.hid (fun (h : ¬ ((htC (mC C a b) us vs = 0 ∧ wC (mC C a b) us vs = 0 ∧ htV (mC C a b) us vs ≤ most) ∧ (t.2.2 < 0 ∨ (wV (mC C a b) us vs e).1 < t.2.2))) => bmS_no (C := C) (us := us) (vs := vs) (e := e) (a := a) (b := b) h)
        have HGy := Lib.hid (fun h1 h2 h3 h4 => bmS_yes (C := C) (us := us) (vs := vs) (e := e) (most := most) (a := a) (b := b) (s := t) h1 h2 h3 h4)
        obtain ⟨b1, o1, e1, hb1, ck⟩ := HMk.out _ hbel6
        cases e1
        obtain ⟨b2, o2, e2, hb2, cl⟩ := HMl.out _ hbel6
        cases e2
        generalize htC (mC C a b) us vs = hc at *
        generalize wC (mC C a b) us vs = wc at *
        generalize htV (mC C a b) us vs = hv at *
        generalize (wV (mC C a b) us vs e).1 = wn at *
        generalize (wV (mC C a b) us vs e).2.1 = wi at *
        generalize (wV (mC C a b) us vs e).2.2 = wk at *
        by_cases c1 : hc = 0
        rotate_left
        · have d1 : (hc == 0) = false := by simpa using c1
          have HX := Lib.hid (HZ.out.trans (HGx.out (fun h => c1 h.1.1)))
          go_wp2
          go_roundw
          case rel => exact ⟨l + 1, by omega, by go_num, by rw [HX.out], by rw [HX.out], by rw [HX.out], HC6, hbel6⟩
          case measure => simp [intOf]; omega
        by_cases c2 : wc = 0
        rotate_left
        · have d1 : (hc == 0) = true := by simpa using c1
          have d2 : (wc == 0) = false := by simpa using c2
          have HX := Lib.hid (HZ.out.trans (HGx.out (fun h => c2 h.1.2.1)))
          go_wp2
          go_roundw
          case rel => exact ⟨l + 1, by omega, by go_num, by rw [HX.out], by rw [HX.out], by rw [HX.out], HC6, hbel6⟩
          case measure => simp [intOf]; omega
        have d1 : (hc == 0) = true := by simpa using c1
        have d2 : (wc == 0) = true := by simpa using c2
        by_cases c3 : hv ≤ most
        rotate_left
        · skip
          have HX := Lib.hid (HZ.out.trans (HGx.out (fun h => c3 h.1.2.2)))
          go_wp2
          go_roundw
          case rel => exact ⟨l + 1, by omega, by go_num, by rw [HX.out], by rw [HX.out], by rw [HX.out], HC6, hbel6⟩
          case measure => simp [intOf]; omega
        by_cases c4 : t.2.2 < 0
        · skip
          have HX := Lib.hid (HZ.out.trans (HGy.out c1 c2 c3 (Or.inl c4)))
          go_wp2
          go_roundw
          case rel => exact ⟨l + 1, by omega, by go_num, by rw [HX.out], by rw [HX.out], by rw [HX.out], HC6, hbel6⟩
          case measure => simp [intOf]; omega
        by_cases c5 : wn < t.2.2
        · skip
          have HX := Lib.hid (HZ.out.trans (HGy.out c1 c2 c3 (Or.inr c5)))
          go_wp2
          go_roundw
          case rel => exact ⟨l + 1, by omega, by go_num, by rw [HX.out], by rw [HX.out], by rw [HX.out], HC6, hbel6⟩
          case measure => simp [intOf]; omega
        have HX := Lib.hid (HZ.out.trans (HGx.out (fun h => h.2.elim c4 c5)))
        go_wp2
        go_roundw
        case rel => exact ⟨l + 1, by omega, by go_num, by rw [HX.out], by rw [HX.out], by rw [HX.out], HC6, hbel6⟩
        case measure => simp [intOf]; omega
open Go.RowKit
set_option linter.unusedVariables false
set_option linter.unusedSimpArgs false
theorem bmClosure_c (z : Int) (w : World) : Calls Tryz.prog 82 #[.int .i64 z] w fun e w' => e = .returned (.bool (!(inB z 100 20000))) ∧ w' = w := by
  go_enter Tryz.func82, Tryz.ntmps82
  go_wp2_with fail
  go_at_call 71; refine (within_c _ _ _ _).mono ?_; rintro e w' ⟨rfl, rfl⟩
  cases hb : inB z 100 20000
  · go_wp2
    go_ret
    exact ⟨by rw [hb]; rfl, rfl⟩
  · go_wp2
    go_ret
    exact ⟨by rw [hb]; rfl, rfl⟩
theorem msOk_no {ms : List Int} {k : Nat} (hk : k < ms.length) (h : inB ms[k] 100 20000 = false) : msOk ms = false := by
  cases hm : msOk ms with
  | false => rfl
  | true =>
    have := List.all_eq_true.1 hm _ (List.getElem_mem hk)
    rw [h] at this; cases this
set_option maxHeartbeats 1000000 in
theorem bmIndex_c (M : Option Addr) (m : Nat) (ms : List Int) (hx : ms.length ≤ 1048576) (w : World) (hM : Ints w M ms) :
    Calls Tryz.prog 123 #[.slice M ms.length m, .func (.func 82) #[] #[]] w fun e w' => (∃ r : Int, e = .returned (.int .i64 r) ∧ decide (r ≥ 0) = !(msOk ms)) ∧ w' = w := by
  have HM := Lib.hid hM
  clear hM
  go_enter Tryz.func123, Tryz.ntmps123
  go_wp2
  go_loopw [5, 8] (fun _ i wr => ∃ k : Nat, k ≤ ms.length ∧ i = .int .i64 k ∧ Hid (msOk (ms.take k) = true) ∧ wr = w) (fun _ i _ => ms.length - (intOf i).toNat)
  case atStart => exact ⟨0, Nat.zero_le _, rfl, Lib.hid rfl, rfl⟩
  case round =>
    obtain ⟨k, hk, rfl, HK, rfl⟩ := hrel
    by_cases hlt : k < ms.length
    · obtain ⟨b, o, e, hb, c0⟩ := HM.out.at_ k hlt
      have HS := Lib.hid (msOk_step hlt)
      have HN := Lib.hid (fun h => msOk_no hlt h)
      subst e
      generalize ms[k] = z at *
      cases hz : inB z 100 20000
      · have HT := Lib.hid (HN.out hz)
        go_wp2_with fail
        refine (bmClosure_c z _).mono ?_; rintro e w1 ⟨rfl, rfl⟩
        rw [hz]
        clear hz
        go_wp2
        go_ret
        exact ⟨⟨k, rfl, by rw [HT.out]; simp⟩, rfl⟩
      · have HT := Lib.hid (show msOk (ms.take (k + 1)) = true by rw [HS.out, HK.out, hz]; rfl)
        go_wp2_with fail
        refine (bmClosure_c z _).mono ?_; rintro e w1 ⟨rfl, rfl⟩
        rw [hz]
        clear hz
        go_wp2
        go_roundw
        case rel => exact ⟨k + 1, by omega, by go_num, HT, by first | trivial | rfl⟩
        case measure => simp [intOf]; omega
    · obtain rfl : k = ms.length := by omega
      have HT := Lib.hid (show msOk ms = true by have := HK.out; rw [List.take_length] at this; exact this)
      go_wp2
      go_ret
      exact ⟨⟨-1, rfl, by rw [HT.out]; rfl⟩, rfl⟩
theorem bmContains_c (M : Option Addr) (m : Nat) (ms : List Int) (hx : ms.length ≤ 1048576) (w : World) (hM : Ints w M ms) :
    Calls Tryz.prog 81 #[.slice M ms.length m, .func (.func 82) #[] #[]] w fun e w' => e = .returned (.bool (!(msOk ms))) ∧ w' = w := by
  go_enter Tryz.func81, Tryz.ntmps81
  go_wp2_with fail
  go_at_call 123; refine (bmIndex_c M m ms hx _ hM).mono ?_; rintro e w1 ⟨⟨r, rfl, hr⟩, rfl⟩
  have HR := Lib.hid hr
  clear hr
  go_wp2
  go_ret
  exact ⟨by rw [← HR.out]; rfl, rfl⟩
open Go.RowKit
set_option linter.unusedVariables false
set_option linter.unusedSimpArgs false
set_option maxRecDepth 50000 in
set_option maxHeartbeats 4000000 in
theorem BestModuli_I (C : Ch) (A : Option Addr) (c : Nat) (M : Option Addr) (m : Nat) (ms : List Int) (D : Option Addr) (d : Nat) (us : List (Int × Int)) (E : Option Addr) (f : Nat) (vs : List (Int × Int)) (e most : Int) (hn : C.zs.length ≤ 1048576) (hm : C.nm.size ≤ 1048576) (hx : ms.length ≤ 1048576) (hu : us.length ≤ 1048576) (hv : vs.length ≤ 1048576) (w : World) (hA : Ints w A C.zs) (hM : Ints w M ms) (hD : Prs w D us) (hE : Prs w E vs) :
    Calls Tryz.prog 27 #[.agg #[.int .i64 C.dg, .int .i64 C.tn, .string C.nm, .slice A C.zs.length c, .int .i64 C.wd, .int .i64 C.lf, .int .i64 C.rt], .slice M ms.length m, .slice D us.length d, .slice E vs.length f, .int .i64 e, .int .i64 most] w fun r w' => r = .returned (.tuple #[.int .i64 (bmV C us vs e most ms).1, .int .i64 (bmV C us vs e most ms).2, .int .i64 (bmC C us vs e most ms)]) ∧ Below w.heap.size w w' := by
  have HI := Lib.hid hA
  have HM := Lib.hid hM
  have HD := Lib.hid hD
  have HE := Lib.hid hE
  clear hA hM hD hE
  go_enter Tryz.func27, Tryz.ntmps27
  go_wp2_with fail
  go_at_call 80; refine (checkSamples_c _ _ _ _ _ us _ _ vs e hn hm hu hv _ (by repeat (with_reducible first | exact HI.out | assumption | refine Ints.drew ?_ | refine Ints.drewN _ ?_ | refine Ints.alloc _ ?_ | refine Ints.step (by assumption) ?_)) (by repeat (with_reducible first | exact HD.out | assumption | refine Prs.drew ?_ | refine Prs.drewN _ ?_ | refine Prs.alloc _ ?_ | refine Prs.step (by assumption) ?_)) (by repeat (with_reducible first | exact HE.out | assumption | refine Prs.drew ?_ | refine Prs.drewN _ ?_ | refine Prs.alloc _ ?_ | refine Prs.step (by assumption) ?_))).mono ?_; rintro r w1 ⟨rfl, hb1⟩
  have HC1 : Blk w1 w.heap.size 30 #[.int .i64 C.dg, .int .i64 C.tn, .string C.nm, .slice A C.zs.length c, .int .i64 C.wd, .int .i64 C.lf, .int .i64 C.rt] := Blk.step hb1 (Blk.new _ _ _)
  have hbel1 : Below w.heap.size w w1 := by repeat (with_reducible first | exact Below.refl _ _ | assumption | refine Bel.alloc ?_ _ | refine Bel.step (by assumption) ?_ | refine Below.drew ?_ | refine Bel.drewN ?_ _ | refine Below.setCell ?_ (by first | exact Nat.le_refl _ | omega | (simp; done) | (simp; omega)) _)
  have HC1 := Lib.hid HC1
  clear hb1
  by_cases hk : lyC C us vs e = 0
  rotate_left
  · have HK := Lib.hid (bm_ly (most := most) (ms := ms) hk)
    have b1 : (lyC C us vs e != 0) = true := by simpa using hk
    clear hk
    go_wp2
    refine bodyPost_ret (results_three rfl _ _ _) rfl ⟨by rw [HK.out.1, HK.out.2]; rfl, by repeat (with_reducible first | exact Below.refl _ _ | assumption | refine Bel.alloc ?_ _ | refine Bel.step (by assumption) ?_ | refine Below.drew ?_ | refine Bel.drewN ?_ _ | refine Below.setCell ?_ (by first | exact Nat.le_refl _ | omega | (simp; done) | (simp; omega)) _)⟩
  have HL := Lib.hid hk
  rw [hk]
  clear hk
  have HM1 := Lib.hid (Ints.step hbel1 HM.out)
  by_cases h8 : ms.length ≤ 8
  rotate_left
  · have HT := Lib.hid (bm_2 HL.out (show bmG ms most = false by simp [bmG, h8]))
    go_wp2
    refine bodyPost_ret (results_three rfl _ _ _) rfl ⟨by rw [HT.out.1, HT.out.2]; rfl, by repeat (with_reducible first | exact Below.refl _ _ | assumption | refine Bel.alloc ?_ _ | refine Bel.step (by assumption) ?_ | refine Below.drew ?_ | refine Bel.drewN ?_ _ | refine Below.setCell ?_ (by first | exact Nat.le_refl _ | omega | (simp; done) | (simp; omega)) _)⟩
  go_wp2_with fail
  go_at_call 71; refine (within_c _ _ _ _).mono ?_; rintro e w' ⟨rfl, rfl⟩
  cases hi : inB most 0 100000
  · have HT := Lib.hid (bm_2 HL.out (show bmG ms most = false by simp [bmG, hi]))
    clear hi
    go_wp2
    refine bodyPost_ret (results_three rfl _ _ _) rfl ⟨by rw [HT.out.1, HT.out.2]; rfl, by repeat (with_reducible first | exact Below.refl _ _ | assumption | refine Bel.alloc ?_ _ | refine Bel.step (by assumption) ?_ | refine Below.drew ?_ | refine Bel.drewN ?_ _ | refine Below.setCell ?_ (by first | exact Nat.le_refl _ | omega | (simp; done) | (simp; omega)) _)⟩
  have HIn := Lib.hid hi
  clear hi
  go_wp2_with fail
  go_at_call 81; refine (bmContains_c M m ms hx _ HM1.out).mono ?_; rintro r w3 ⟨rfl, rfl⟩
  cases hg : msOk ms
  · have HT := Lib.hid (bm_2 HL.out (show bmG ms most = false by simp [bmG, hg]))
    clear hg
    go_wp2
    refine bodyPost_ret (results_three rfl _ _ _) rfl ⟨by rw [HT.out.1, HT.out.2]; rfl, by repeat (with_reducible first | exact Below.refl _ _ | assumption | refine Bel.alloc ?_ _ | refine Bel.step (by assumption) ?_ | refine Below.drew ?_ | refine Bel.drewN ?_ _ | refine Below.setCell ?_ (by first | exact Nat.le_refl _ | omega | (simp; done) | (simp; omega)) _)⟩
  have HMs := Lib.hid hg
  have HGo := Lib.hid (show bmG ms most = true by simp [bmG, h8, hg, HIn.out])
  clear hg
  have HY := Lib.hid (lyC_0 HL.out)
  have HX0 : Blk (w3.alloc (.cells #[.int .i64 ZC.dg, .int .i64 ZC.tn, .string ZC.nm, .slice none ZC.zs.length 0, .int .i64 ZC.wd, .int .i64 ZC.lf, .int .i64 ZC.rt] 30)) w3.heap.size 30 #[.int .i64 ZC.dg, .int .i64 ZC.tn, .string ZC.nm, .slice none ZC.zs.length 0, .int .i64 ZC.wd, .int .i64 ZC.lf, .int .i64 ZC.rt] := Blk.new _ _ _
  have HC3 : Blk (w3.alloc (.cells #[.int .i64 ZC.dg, .int .i64 ZC.tn, .string ZC.nm, .slice none ZC.zs.length 0, .int .i64 ZC.wd, .int .i64 ZC.lf, .int .i64 ZC.rt] 30)) w.heap.size 30 #[.int .i64 C.dg, .int .i64 C.tn, .string C.nm, .slice A C.zs.length c, .int .i64 C.wd, .int .i64 C.lf, .int .i64 C.rt] := Blk.alloc _ HC1.out
  have hbel3 : Below w.heap.size w (w3.alloc (.cells #[.int .i64 ZC.dg, .int .i64 ZC.tn, .string ZC.nm, .slice none ZC.zs.length 0, .int .i64 ZC.wd, .int .i64 ZC.lf, .int .i64 ZC.rt] 30)) := by repeat (with_reducible first | exact Below.refl _ _ | assumption | refine Bel.alloc ?_ _ | refine Bel.step (by assumption) ?_ | refine Below.drew ?_ | refine Bel.drewN ?_ _ | refine Below.setCell ?_ (by first | exact Nat.le_refl _ | omega | (simp; done) | (simp; omega)) _)
  have lX : w.heap.size < w3.heap.size := HC1.out.lt
  have HXh := Lib.hid HX0
  have HCh := Lib.hid HC3
  clear HX0 HC3 HC1 HM1 hbel1
  have h8' : ¬ (8 : Int) < (ms.length : Int) := by omega
  go_wp2
  obtain ⟨X, hX⟩ : ∃ X, X = w3.heap.size := ⟨_, rfl⟩
  rw [← hX] at HXh lX ⊢
  clear hX
  go_loopw [17, 19, 21, 22, 23, 24, 25, 26, 27, 28, 52, 56, 57, 58] (fun n _ _ _ _ _ _ _ _ _ i _ _ _ wr => ∃ (k : Nat) (K : Ch) (A' : Option Addr) (c' : Nat), k ≤ ms.length ∧ i = .int .i64 k ∧ n = .int .i64 ((ms.take k).foldl (bmR C us vs e most ms) (0, 0, -1)).2.2 ∧ K.lf = ((ms.take k).foldl (bmR C us vs e most ms) (0, 0, -1)).1 ∧ K.rt = ((ms.take k).foldl (bmR C us vs e most ms) (0, 0, -1)).2.1 ∧ Hid (Blk wr X 30 #[.int .i64 K.dg, .int .i64 K.tn, .string K.nm, .slice A' K.zs.length c', .int .i64 K.wd, .int .i64 K.lf, .int .i64 K.rt]) ∧ Hid (Blk wr w.heap.size 30 #[.int .i64 C.dg, .int .i64 C.tn, .string C.nm, .slice A C.zs.length c, .int .i64 C.wd, .int .i64 C.lf, .int .i64 C.rt]) ∧ Below w.heap.size w wr) (fun _ _ _ _ _ _ _ _ _ _ i _ _ _ _ => ms.length - (intOf i).toNat)
  case atStart => exact ⟨0, ZC, none, 0, Nat.zero_le _, rfl, rfl, rfl, rfl, HXh, HCh, hbel3⟩
  case round =>
    clear HXh HCh hbel3
    obtain ⟨k, K, A', c', hk, rfl, rfl, hK1, hK2, HXb, HC, hbel⟩ := hrel
    by_cases hlt : k < ms.length
    rotate_left
    · obtain rfl : k = ms.length := by omega
      rw [List.take_length] at hK1 hK2 ⊢
      rw [show (ms.foldl (bmR C us vs e most ms) (0, 0, -1)) = bmT C us vs e most ms from rfl] at hK1 hK2 ⊢
      have l0 : wr.cell? ⟨X, 5, none⟩ = some (.int .i64 K.lf) := by rw [HXb.out.cell]; rfl
      have l1 : wr.cell? ⟨X, 6, none⟩ = some (.int .i64 K.rt) := by rw [HXb.out.cell]; rfl
      rw [hK1] at l0
      rw [hK2] at l1
      clear hK1 hK2
      by_cases hn4 : (bmT C us vs e most ms).2.2 < 0
      · have HT := Lib.hid (bm_4 HL.out HGo.out hn4)
        generalize bmT C us vs e most ms = t at *
        go_wp2
        refine bodyPost_ret (results_three rfl _ _ _) rfl ⟨by rw [HT.out.1, HT.out.2]; rfl, by repeat (with_reducible first | exact Below.refl _ _ | assumption | refine Bel.alloc ?_ _ | refine Bel.step (by assumption) ?_ | refine Below.drew ?_ | refine Bel.drewN ?_ _ | refine Below.setCell ?_ (by first | exact Nat.le_refl _ | omega | (simp; done) | (simp; omega)) _)⟩
      · have HT := Lib.hid (bm_0 HL.out HGo.out hn4)
        generalize bmT C us vs e most ms = t at *
        go_wp2
        go_region_held3 (fun w' => w'.cell? ⟨X, 5, none⟩ = some (.int .i64 t.1) ∧ w'.cell? ⟨X, 6, none⟩ = some (.int .i64 t.2.1)) (simp [go_sem, *]) (fail)
        go_wp2
        refine bodyPost_ret (results_three rfl _ _ _) rfl ⟨by rw [HT.out.1, HT.out.2]; rfl, by repeat (with_reducible first | exact Below.refl _ _ | assumption | refine Bel.alloc ?_ _ | refine Bel.step (by assumption) ?_ | refine Below.drew ?_ | refine Bel.drewN ?_ _ | refine Below.setCell ?_ (by first | exact Nat.le_refl _ | omega | (simp; done) | (simp; omega)) _)⟩
    have HK := Lib.hid (foldl_step (bmR C us vs e most ms) (0, 0, -1) hlt)
    have HMz := Lib.hid (fun (W : World) (hW : Below w.heap.size w W) => (Ints.step hW HM.out).at_ k hlt)
    obtain ⟨bm, om, e1, hbm, ck⟩ := HMz.out _ hbel
    subst e1
    generalize (ms.take k).foldl (bmR C us vs e most ms) (0, 0, -1) = s at *
    go_wp2
    go_loopw [17, 21, 22, 23, 24, 25, 26, 27, 28, 58] (fun n _ _ _ _ _ _ _ _ i wr => ∃ (l : Nat) (K : Ch) (A' : Option Addr) (c' : Nat), l ≤ ms.length ∧ i = .int .i64 l ∧ n = .int .i64 ((ms.take l).foldl (bmS C us vs e most ms[k]) s).2.2 ∧ K.lf = ((ms.take l).foldl (bmS C us vs e most ms[k]) s).1 ∧ K.rt = ((ms.take l).foldl (bmS C us vs e most ms[k]) s).2.1 ∧ Hid (Blk wr X 30 #[.int .i64 K.dg, .int .i64 K.tn, .string K.nm, .slice A' K.zs.length c', .int .i64 K.wd, .int .i64 K.lf, .int .i64 K.rt]) ∧ Hid (Blk wr w.heap.size 30 #[.int .i64 C.dg, .int .i64 C.tn, .string C.nm, .slice A C.zs.length c, .int .i64 C.wd, .int .i64 C.lf, .int .i64 C.rt]) ∧ Below w.heap.size w wr) (fun _ _ _ _ _ _ _ _ _ i _ => ms.length - (intOf i).toNat)
    case atStart => exact ⟨0, K, A', c', Nat.zero_le _, rfl, rfl, hK1, hK2, HXb, HC, hbel⟩
    case round =>
      clear HXb HC hbel hK1 hK2 ck hbm
      obtain ⟨l, K, A', c', hl, rfl, rfl, hK1, hK2, HXb, HC, hbel⟩ := hrel
      by_cases hlt2 : l < ms.length
      rotate_left
      · obtain rfl : l = ms.length := by omega
        rw [List.take_length] at hK1 hK2 ⊢
        have HR := Lib.hid (show (ms.take (k + 1)).foldl (bmR C us vs e most ms) (0, 0, -1) = ms.foldl (bmS C us vs e most ms[k]) s from HK.out)
        generalize ms.foldl (bmS C us vs e most ms[k]) s = t at *
        go_wp2
        go_roundw
        case rel => exact ⟨k + 1, K, A', c', by omega, by go_num, by rw [HR.out], by rw [HR.out]; exact hK1, by rw [HR.out]; exact hK2, HXb, HC, hbel⟩
        case measure => simp [intOf]; omega
      have HZ := Lib.hid (foldl_step (bmS C us vs e most ms[k]) s hlt2)
      have HAk := Lib.hid (List.all_eq_true.1 HMs.out _ (List.getElem_mem hlt))
      have HBl := Lib.hid (List.all_eq_true.1 HMs.out _ (List.getElem_mem hlt2))
      obtain ⟨bm', om', e2, hbm', cl⟩ := (Ints.step hbel HM.out).at_ l hlt2
      cases e2
      clear HK HMz
      generalize ms[k] = a at *
      generalize ms[l] = b at *
      generalize (ms.take l).foldl (bmS C us vs e most a) s = t at *
      have HOk := Lib.hid (mC_ok HY.out.1 HAk.out HBl.out)
      have hz0 : 0 < C.zs.length := by have := (okCh_iff HY.out.1).2.1; omega
      have p0 : wr.cell? ⟨w.heap.size, 0, none⟩ = some (.int .i64 C.dg) := by rw [HC.out.cell]; rfl
      have p1 : wr.cell? ⟨w.heap.size, 1, none⟩ = some (.int .i64 C.tn) := by rw [HC.out.cell]; rfl
      have p2 : wr.cell? ⟨w.heap.size, 2, none⟩ = some (.string C.nm) := by rw [HC.out.cell]; rfl
      have p3 : wr.cell? ⟨w.heap.size, 3, none⟩ = some (.slice A C.zs.length c) := by rw [HC.out.cell]; rfl
      have p4 : wr.cell? ⟨w.heap.size, 4, none⟩ = some (.int .i64 C.wd) := by rw [HC.out.cell]; rfl
      have p5 : wr.cell? ⟨w.heap.size, 5, none⟩ = some (.int .i64 C.lf) := by rw [HC.out.cell]; rfl
      have p6 : wr.cell? ⟨w.heap.size, 6, none⟩ = some (.int .i64 C.rt) := by rw [HC.out.cell]; rfl
      have clt := HC.out.lt
      have HIr := Lib.hid (Ints.step hbel HI.out)
      go_wp2_with fail
      go_at_call 83; refine (withModuli_c C A c a b hz0 hn _ HIr.out).mono ?_; rintro r w4 ⟨A5, c5, rfl, hO4, hb4⟩
      have HC4 := Blk.alloc (.cells #[.int .i64 (mC C a b).dg, .int .i64 (mC C a b).tn, .string (mC C a b).nm, .slice A5 (mC C a b).zs.length c5, .int .i64 (mC C a b).wd, .int .i64 (mC C a b).lf, .int .i64 (mC C a b).rt] 30) (Blk.step hb4 HC.out)
      have HX4 := Blk.alloc (.cells #[.int .i64 (mC C a b).dg, .int .i64 (mC C a b).tn, .string (mC C a b).nm, .slice A5 (mC C a b).zs.length c5, .int .i64 (mC C a b).wd, .int .i64 (mC C a b).lf, .int .i64 (mC C a b).rt] 30) (Blk.step hb4 HXb.out)
      have HD4 := Blk.new w4 30 #[.int .i64 (mC C a b).dg, .int .i64 (mC C a b).tn, .string (mC C a b).nm, .slice A5 (mC C a b).zs.length c5, .int .i64 (mC C a b).wd, .int .i64 (mC C a b).lf, .int .i64 (mC C a b).rt]
      have HJ4 := Lib.hid (Ints.alloc (.cells #[.int .i64 (mC C a b).dg, .int .i64 (mC C a b).tn, .string (mC C a b).nm, .slice A5 (mC C a b).zs.length c5, .int .i64 (mC C a b).wd, .int .i64 (mC C a b).lf, .int .i64 (mC C a b).rt] 30) hO4.ints)
      have hbel4 := Bel.alloc (Bel.step hb4 hbel) (.cells #[.int .i64 (mC C a b).dg, .int .i64 (mC C a b).tn, .string (mC C a b).nm, .slice A5 (mC C a b).zs.length c5, .int .i64 (mC C a b).wd, .int .i64 (mC C a b).lf, .int .i64 (mC C a b).rt] 30)
      have hlX := HX4.lt
      clear hb4 hO4 HC HXb hbel p0 p1 p2 p3 p4 p5 p6 cl hbm' clt HIr
      go_wp2_with fail
      go_at_call 84; refine (heightOf_c (mC C a b) A5 c5 _ _ us _ _ vs hn hm HOk.out HY.out.2.1 HY.out.2.2.1 HY.out.2.2.2.1.1 HY.out.2.2.2.1.2 HY.out.2.2.2.2.1.1 HY.out.2.2.2.2.1.2 _ HJ4.out (Prs.step hbel4 HD.out) (Prs.step hbel4 HE.out)).mono ?_; rintro r w5 ⟨rfl, hb5⟩
      have HC5 := Blk.step hb5 HC4
      have HX5 := Blk.step hb5 HX4
      have HD5 := Blk.step hb5 HD4
      have HJ5 := Lib.hid (Ints.step hb5 HJ4.out)
      have hbel5 := Bel.step hb5 hbel4
      clear hb5 HC4 HX4 HD4 HJ4 hbel4 hlX
      generalize w4.heap.size = Y at HD5 ⊢
      have p0 : w5.cell? ⟨Y, 0, none⟩ = some (.int .i64 (mC C a b).dg) := by rw [HD5.cell]; rfl
      have p1 : w5.cell? ⟨Y, 1, none⟩ = some (.int .i64 (mC C a b).tn) := by rw [HD5.cell]; rfl
      have p2 : w5.cell? ⟨Y, 2, none⟩ = some (.string (mC C a b).nm) := by rw [HD5.cell]; rfl
      have p3 : w5.cell? ⟨Y, 3, none⟩ = some (.slice A5 (mC C a b).zs.length c5) := by rw [HD5.cell]; rfl
      have p4 : w5.cell? ⟨Y, 4, none⟩ = some (.int .i64 (mC C a b).wd) := by rw [HD5.cell]; rfl
      have p5 : w5.cell? ⟨Y, 5, none⟩ = some (.int .i64 (mC C a b).lf) := by rw [HD5.cell]; rfl
      have p6 : w5.cell? ⟨Y, 6, none⟩ = some (.int .i64 (mC C a b).rt) := by rw [HD5.cell]; rfl
      go_wp2_with fail
      go_at_call 85; refine (worstPair_c (mC C a b) A5 c5 _ _ us _ _ vs e hn hm HOk.out HY.out.2.1 HY.out.2.2.1 HY.out.2.2.2.1.2 HY.out.2.2.2.2.1.2 HY.out.2.2.2.2.2.1 HY.out.2.2.2.2.2.2 _ HJ5.out (Prs.step hbel5 HD.out) (Prs.step hbel5 HE.out)).mono ?_; rintro r w6 ⟨rfl, hb6⟩
      have HC6 := Lib.hid (Blk.step hb6 HC5)
      have HXx := Blk.step hb6 HX5
      have HDx := Blk.step hb6 HD5
      have hbel6 := Bel.step hb6 hbel5
      clear hb6 HC5 HX5 HD5 HJ5 hbel5 p0 p1 p2 p3 p4 p5 p6
      have HGx := Lib.hid (fun (h : ¬ ((htC (mC C a b) us vs = 0 ∧ wC (mC C a b) us vs = 0 ∧ htV (mC C a b) us vs ≤ most) ∧ (t.2.2 < 0 ∨ (wV (mC C a b) us vs e).1 < t.2.2))) => bmS_no (C := C) (us := us) (vs := vs) (e := e) (a := a) (b := b) h)
      have HGy := Lib.hid (fun h1 h2 h3 h4 => bmS_yes (C := C) (us := us) (vs := vs) (e := e) (most := most) (a := a) (b := b) (s := t) h1 h2 h3 h4)
      generalize htC (mC C a b) us vs = hc at *
      generalize wC (mC C a b) us vs = wc at *
      generalize htV (mC C a b) us vs = hv at *
      generalize (wV (mC C a b) us vs e).1 = wn at *
      by_cases c1 : hc = 0
      rotate_left
      · have d1 : (hc == 0) = false := by simpa using c1
        have HX := Lib.hid (HZ.out.trans (HGx.out (fun h => c1 h.1.1)))
        go_wp2
        go_roundw
        case rel => exact ⟨l + 1, K, A', c', by omega, by go_num, by rw [HX.out], by rw [HX.out]; exact hK1, by rw [HX.out]; exact hK2, Lib.hid HXx, HC6, hbel6⟩
        case measure => simp [intOf]; omega
      by_cases c2 : wc = 0
      rotate_left
      · have d1 : (hc == 0) = true := by simpa using c1
        have d2 : (wc == 0) = false := by simpa using c2
        have HX := Lib.hid (HZ.out.trans (HGx.out (fun h => c2 h.1.2.1)))
        go_wp2
        go_roundw
        case rel => exact ⟨l + 1, K, A', c', by omega, by go_num, by rw [HX.out], by rw [HX.out]; exact hK1, by rw [HX.out]; exact hK2, Lib.hid HXx, HC6, hbel6⟩
        case measure => simp [intOf]; omega
      have d1 : (hc == 0) = true := by simpa using c1
      have d2 : (wc == 0) = true := by simpa using c2
      by_cases c3 : hv ≤ most
      rotate_left
      · skip
        have HX := Lib.hid (HZ.out.trans (HGx.out (fun h => c3 h.1.2.2)))
        go_wp2
        go_roundw
        case rel => exact ⟨l + 1, K, A', c', by omega, by go_num, by rw [HX.out], by rw [HX.out]; exact hK1, by rw [HX.out]; exact hK2, Lib.hid HXx, HC6, hbel6⟩
        case measure => simp [intOf]; omega
      by_cases c4 : t.2.2 < 0
      · skip
        have HX := Lib.hid (HZ.out.trans (HGy.out c1 c2 c3 (Or.inl c4)))
        go_wp2_with (first | (refine wpList_load_blkG 30 _ _ HDx Tryz.underlying30 (by kernel_rfl) rfl rfl (by rfl) ?_) | (refine wpList_store_blk (cs := #[.int .i64 (mC C a b).dg, .int .i64 (mC C a b).tn, .string (mC C a b).nm, .slice A5 (mC C a b).zs.length c5, .int .i64 (mC C a b).wd, .int .i64 (mC C a b).lf, .int .i64 (mC C a b).rt]) 30 _ _ _ HXx (by kernel_rfl) rfl (by simp [Value.oneCell']) rfl rfl rfl rfl ?_))
        go_roundw
        case rel => exact ⟨l + 1, mC C a b, A5, c5, by omega, by go_num, by rw [HX.out], by rw [HX.out]; rfl, by rw [HX.out]; rfl, Lib.hid (Blk.setRow _ HXx), Lib.hid (Blk.setRow_far _ (by omega) HC6.out), Bel.setRow hbel6 (by omega) _⟩
        case measure => simp [intOf]; omega
      by_cases hw5 : wn < t.2.2
      · have d4 : decide (t.2.2 < 0) = false := by simpa using c4
        have d5 : decide (wn < t.2.2) = true := by simpa using hw5
        have HX := Lib.hid (HZ.out.trans (HGy.out c1 c2 c3 (Or.inr hw5)))
        go_wp2_with (first | (refine wpList_load_blkG 30 _ _ HDx Tryz.underlying30 (by kernel_rfl) rfl rfl (by rfl) ?_) | (refine wpList_store_blk (cs := #[.int .i64 (mC C a b).dg, .int .i64 (mC C a b).tn, .string (mC C a b).nm, .slice A5 (mC C a b).zs.length c5, .int .i64 (mC C a b).wd, .int .i64 (mC C a b).lf, .int .i64 (mC C a b).rt]) 30 _ _ _ HXx (by kernel_rfl) rfl (by simp [Value.oneCell']) rfl rfl rfl rfl ?_))
        go_roundw
        case rel => exact ⟨l + 1, mC C a b, A5, c5, by omega, by go_num, by rw [HX.out], by rw [HX.out]; rfl, by rw [HX.out]; rfl, Lib.hid (Blk.setRow _ HXx), Lib.hid (Blk.setRow_far _ (by omega) HC6.out), Bel.setRow hbel6 (by omega) _⟩
        case measure => simp [intOf]; omega
      have HX := Lib.hid (HZ.out.trans (HGx.out (fun h => h.2.elim c4 hw5)))
      go_wp2
      go_roundw
      case rel => exact ⟨l + 1, K, A', c', by omega, by go_num, by rw [HX.out], by rw [HX.out]; exact hK1, by rw [HX.out]; exact hK2, Lib.hid HXx, HC6, hbel6⟩
      case measure => simp [intOf]; omega
end Go.Proofs.YtpmcgicopogbhaaGreat
