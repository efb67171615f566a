/- Chapter 26: the worst pair of a layout, of the program. Conditions: as stated at each contract. -/
import Derived.Test.YtpmcgicopogbhaaGreatProg
import Derived.Test.YtpmcgicopogbhaaGreatBase
import Derived.Test.YtpmcgicopogbhaaGreatRw
import Derived.Test.YtpmcgicopogbhaaGreatL01
import Derived.Test.YtpmcgicopogbhaaGreatCp
import Derived.Test.YtpmcgicopogbhaaGreatL18
import Derived.Test.YtpmcgicopogbhaaGreatL23
import Derived.Test.YtpmcgicopogbhaaGreatL03
import Derived.Test.YtpmcgicopogbhaaGreatL04
import Derived.Test.YtpmcgicopogbhaaGreatL23d
import Derived.Test.YtpmcgicopogbhaaGreatL23e
import Derived.Test.YtpmcgicopogbhaaGreatL24
import Derived.Test.YtpmcgicopogbhaaGreatL24b
import Derived.Test.YtpmcgicopogbhaaGreatL24c
import Derived.Test.YtpmcgicopogbhaaGreatL24f
import Derived.Test.YtpmcgicopogbhaaGreatL24g
import Derived.Test.YtpmcgicopogbhaaGreatL24r
import Derived.Test.YtpmcgicopogbhaaGreatM24
import Derived.Test.YtpmcgicopogbhaaGreatM24r
import Derived.Test.YtpmcgicopogbhaaGreatL26a
import Derived.Test.YtpmcgicopogbhaaGreatL26b
import Derived.WalkKit
import Derived.WalkSpells
import Derived.WalkLawsBesides
import Derived.Lib.Hide
import Derived.Deep.QuietTactic
import Derived.BigQuiet
import Derived.Deep.Draws
import Derived.Deep.RegionHeld3
namespace Go.Proofs.YtpmcgicopogbhaaGreat
open Go.RowKit
set_option linter.unusedVariables false
set_option maxRecDepth 50000 in
set_option maxHeartbeats 2000000 in
theorem worstPair_c (C : Ch) (A : Option Addr) (c : Nat) (D : Option Addr) (d : Nat) (us : List (Int × Int)) (E : Option Addr) (f : Nat) (vs : List (Int × Int)) (e : Int) (hn : C.zs.length ≤ 1048576) (hm : C.nm.size ≤ 1048576) (h : okCh C = true) (hu : okFs us = true) (hv : okFs vs = true) (lu : us.length ≤ 12) (lv : vs.length ≤ 12) (he1 : 0 ≤ e) (he2 : e ≤ 200) (w : World) (hA : Ints w A C.zs) (hD : Prs w D us) (hE : Prs w E vs) :
    Calls Tryz.prog 85 #[.agg #[.int .i64 C.dg, .int .i64 C.tn, .string C.nm, .slice A C.zs.length c, .int .i64 C.wd, .int .i64 C.lf, .int .i64 C.rt], .slice D us.length d, .slice E vs.length f, .int .i64 e] w fun r w' => r = .returned (.tuple #[.int .i64 (wV C us vs e).2.1, .int .i64 (wV C us vs e).2.2, .int .i64 (wV C us vs e).1, .int .i64 (wC C us vs)]) ∧ Below w.heap.size w w' := by
  have HI := Lib.hid hA
  have HD := Lib.hid hD
  have HE := Lib.hid hE
  have H := Lib.hid h
  have HU := Lib.hid hu
  have HV := Lib.hid hv
  clear hA hD hE h hu hv
  go_enter Tryz.func85, Tryz.ntmps85
  go_wp2
  go_loopw [12, 13, 14, 15, 16, 17, 18, 19, 20, 23, 28, 29, 30] (fun a b most _ _ _ _ _ _ i _ _ _ wr => ∃ k : Nat, k ≤ us.length ∧ i = .int .i64 k ∧ most = .int .i64 (wOut (wG C us vs e) vs.length k).1 ∧ a = .int .i64 (wOut (wG C us vs e) vs.length k).2.1 ∧ b = .int .i64 (wOut (wG C us vs e) vs.length k).2.2 ∧ Hid (wOk C (us.take k) vs = true) ∧ Hid (Blk wr w.heap.size 30 #[.int .i64 C.dg, .int .i64 C.tn, .string C.nm, .slice A C.zs.length c, .int .i64 C.wd, .int .i64 C.lf, .int .i64 C.rt]) ∧ Below w.heap.size w wr) (fun _ _ _ _ _ _ _ _ _ i _ _ _ _ => us.length - (intOf i).toNat)
  case atStart => exact ⟨0, Nat.zero_le _, rfl, rfl, rfl, rfl, Lib.hid rfl, Lib.hid (Blk.new _ _ _), by repeat (with_reducible first | exact Below.refl _ _ | assumption | refine Bel.alloc ?_ _ | refine Bel.step (by assumption) ?_ | refine Below.drew ?_ | refine Bel.drewN ?_ _ | refine Below.setCell ?_ (by first | exact Nat.le_refl _ | omega | (simp; done) | (simp; omega)) _)⟩
  case round =>
    obtain ⟨k, hk, rfl, rfl, rfl, rfl, HO, HC, hbel⟩ := hrel
    by_cases hlt : k < us.length
    rotate_left
    · obtain rfl : k = us.length := by omega
      have HT := Lib.hid (show wV C us vs e = wOut (wG C us vs e) vs.length us.length ∧ wC C us vs = 0 by have := HO.out; rw [List.take_length] at this; simp [wV, wC, this, wT])
      go_wp2
      refine bodyPost_ret (results_four rfl _ _ _) rfl ⟨?_, by repeat (with_reducible first | exact Below.refl _ _ | assumption | refine Bel.alloc ?_ _ | refine Bel.step (by assumption) ?_ | refine Below.drew ?_ | refine Bel.drewN ?_ _ | refine Below.setCell ?_ (by first | exact Nat.le_refl _ | omega | (simp; done) | (simp; omega)) _)⟩
      rw [HT.out.1, HT.out.2]; rfl
    obtain ⟨s, hs⟩ : ∃ s, s = wOut (wG C us vs e) vs.length k := ⟨_, rfl⟩
    rw [← hs]
    have HS := Lib.hid (show wOut (wG C us vs e) vs.length (k + 1) = wIn (wG C us vs e k) k s vs.length by rw [hs]; rfl)
    clear hs
    obtain ⟨wo, rfl⟩ : ∃ wo : World, wo = wr := ⟨_, rfl⟩
    obtain ⟨bu, ou, rfl, hbu, u0, u1⟩ := (Prs.step hbel HD.out).at_ k hlt
    have HFu := Lib.hid (okFs_ix HU.out hlt)
    have HOr := Lib.hid (fun hx : (vs.all fun v => decide (lhC C us[k].1 us[k].2 v.1 v.2 = 0)) = true => wOk_row hlt HO.out hx)
    have HWs := Lib.hid (fun (l : Nat) (hl : l < vs.length) => wT_step (C := C) (e := e) hlt hl s)
    have HOs := Lib.hid (fun (l : Nat) (hl : l < vs.length) h1 h2 => wOk_take (C := C) hlt hl h1 h2)
    have HNs := Lib.hid (fun (l : Nat) (hl : l < vs.length) hx => wOk_no (C := C) hlt hl hx)
    generalize us[k].1 = ud at *
    generalize us[k].2 = ut at *
    have HC1 := Lib.hid (Blk.alloc (.cells #[.int .i64 ud, .int .i64 ut] 25) HC.out)
    have HB1 := Lib.hid (Blk.new wo 25 #[.int .i64 ud, .int .i64 ut])
    have hbel1 : Below w.heap.size w (wo.alloc (.cells #[.int .i64 ud, .int .i64 ut] 25)) := by repeat (with_reducible first | exact Below.refl _ _ | assumption | refine Bel.alloc ?_ _ | refine Bel.step (by assumption) ?_ | refine Below.drew ?_ | refine Bel.drewN ?_ _ | refine Below.setCell ?_ (by first | exact Nat.le_refl _ | omega | (simp; done) | (simp; omega)) _)
    clear HC
    go_wp2
    go_loopw [12, 13, 14, 17, 18, 19, 20, 30] (fun a b most _ _ _ _ j wr => ∃ l : Nat, l ≤ vs.length ∧ j = .int .i64 l ∧ most = .int .i64 (wIn (wG C us vs e k) k s l).1 ∧ a = .int .i64 (wIn (wG C us vs e k) k s l).2.1 ∧ b = .int .i64 (wIn (wG C us vs e k) k s l).2.2 ∧ Hid (((vs.take l).all fun v => decide (lhC C ud ut v.1 v.2 = 0)) = true) ∧ Hid (Blk wr w.heap.size 30 #[.int .i64 C.dg, .int .i64 C.tn, .string C.nm, .slice A C.zs.length c, .int .i64 C.wd, .int .i64 C.lf, .int .i64 C.rt]) ∧ Hid (Blk wr wo.heap.size 25 #[.int .i64 ud, .int .i64 ut]) ∧ Below w.heap.size w wr) (fun _ _ _ _ _ _ _ j _ => vs.length - (intOf j).toNat)
    case atStart => exact ⟨0, Nat.zero_le _, rfl, rfl, rfl, rfl, Lib.hid rfl, HC1, HB1, hbel1⟩
    case round =>
      clear hbel u0 u1 HC1 HB1 hbel1
      obtain ⟨l, hl, rfl, rfl, rfl, rfl, HL, HC, HB, hbel⟩ := hrel
      by_cases hlt2 : l < vs.length
      rotate_left
      · obtain rfl : l = vs.length := by omega
        have HO2 := Lib.hid (HOr.out (by have := HL.out; rw [List.take_length] at this; exact this))
        go_wp2
        go_roundw
        case rel => exact ⟨k + 1, by omega, by go_num, by rw [HS.out], by rw [HS.out], by rw [HS.out], HO2, HC, hbel⟩
        case measure => simp [intOf]; omega
      obtain ⟨bv, ov, rfl, hbv, v0, v1⟩ := (Prs.step hbel HE.out).at_ l hlt2
      have HFv := Lib.hid (okFs_ix HV.out hlt2)
      have HW := Lib.hid (HWs.out l hlt2)
      have HOl := Lib.hid (HOs.out l hlt2 HL.out)
      have HNo := Lib.hid (HNs.out l hlt2)
      generalize vs[l].1 = vd at *
      generalize vs[l].2 = vt at *
      have p0 : wr.cell? ⟨w.heap.size, 0, none⟩ = some (.int .i64 C.dg) := by rw [HC.out.cell]; rfl
      have p1 : wr.cell? ⟨w.heap.size, 1, none⟩ = some (.int .i64 C.tn) := by rw [HC.out.cell]; rfl
      have p2 : wr.cell? ⟨w.heap.size, 2, none⟩ = some (.string C.nm) := by rw [HC.out.cell]; rfl
      have p3 : wr.cell? ⟨w.heap.size, 3, none⟩ = some (.slice A C.zs.length c) := by rw [HC.out.cell]; rfl
      have p4 : wr.cell? ⟨w.heap.size, 4, none⟩ = some (.int .i64 C.wd) := by rw [HC.out.cell]; rfl
      have p5 : wr.cell? ⟨w.heap.size, 5, none⟩ = some (.int .i64 C.lf) := by rw [HC.out.cell]; rfl
      have p6 : wr.cell? ⟨w.heap.size, 6, none⟩ = some (.int .i64 C.rt) := by rw [HC.out.cell]; rfl
      have u0 : wr.cell? ⟨wo.heap.size, 0, none⟩ = some (.int .i64 ud) := by rw [HB.out.cell]; rfl
      have u1 : wr.cell? ⟨wo.heap.size, 1, none⟩ = some (.int .i64 ut) := by rw [HB.out.cell]; rfl
      have clt := HC.out.lt
      have blt := HB.out.lt
      have HI1 := Lib.hid (Ints.step hbel HI.out)
      go_wp2_with fail
      go_at_call 127; refine (readingError_c _ _ _ _ _ _ _ _ hn hm H.out HFu.out HFv.out he1 he2 _ (by repeat (with_reducible first | exact HI1.out | assumption | refine Ints.drew ?_ | refine Ints.drewN _ ?_ | refine Ints.alloc _ ?_ | refine Ints.step (by assumption) ?_))).mono ?_; rintro r w1 ⟨rfl, hb1⟩
      have HC2 := Lib.hid (Blk.step hb1 (Blk.alloc (.cells #[.int .i64 vd, .int .i64 vt] 25) HC.out))
      have HB2 := Lib.hid (Blk.step hb1 (Blk.alloc (.cells #[.int .i64 vd, .int .i64 vt] 25) HB.out))
      have hbel1 : Below w.heap.size w w1 := by repeat (with_reducible first | exact Below.refl _ _ | assumption | refine Bel.alloc ?_ _ | refine Bel.step (by assumption) ?_ | refine Below.drew ?_ | refine Bel.drewN ?_ _ | refine Below.setCell ?_ (by first | exact Nat.le_refl _ | omega | (simp; done) | (simp; omega)) _)
      clear hb1 p0 p1 p2 p3 p4 p5 p6 u0 u1 v0 v1 HC HB
      by_cases hc : lhC C ud ut vd vt = 0
      · have HO3 := Lib.hid (HOl.out hc)
        have hx0 := re_nonneg (e := e) H.out hc he1
        have HR := Lib.hid (show reV C ud ut vd vt e = reX C ud ut vd vt e by simp [reV, hc])
        rw [HR.out, hc]
        clear hc
        generalize reX C ud ut vd vt e = x at *
        generalize wIn (wG C us vs e k) k s l = t at *
        by_cases hx : t.1 < x
        · have HX := Lib.hid (show wIn (wG C us vs e k) k s (l + 1) = (x, (k : Int), (l : Int)) by rw [HW.out, if_pos hx])
          by_cases ht : t.1 < 0
          · go_wp2
            go_roundw
            case rel => exact ⟨l + 1, by omega, by go_num, by rw [HX.out], by rw [HX.out], by rw [HX.out], HO3, HC2, HB2, hbel1⟩
            case measure => simp [intOf]; omega
          · go_wp2
            go_roundw
            case rel => exact ⟨l + 1, by omega, by go_num, by rw [HX.out], by rw [HX.out], by rw [HX.out], HO3, HC2, HB2, hbel1⟩
            case measure => simp [intOf]; omega
        · have HX := Lib.hid (show wIn (wG C us vs e k) k s (l + 1) = t by rw [HW.out, if_neg hx])
          have ht : ¬ t.1 < 0 := by omega
          go_wp2
          go_roundw
          case rel => exact ⟨l + 1, by omega, by go_num, by rw [HX.out], by rw [HX.out], by rw [HX.out], HO3, HC2, HB2, hbel1⟩
          case measure => simp [intOf]; omega
      · have HT := Lib.hid (show wV C us vs e = (0, 0, 0) ∧ wC C us vs = 3 by have := HNo.out hc; simp [wV, wC, this])
        have hq : lhC C ud ut vd vt = 3 := by unfold lhC at hc ⊢; split <;> simp_all
        rw [hq]
        clear hc hq
        go_wp2
        refine bodyPost_ret (results_four rfl _ _ _) rfl ⟨?_, by repeat (with_reducible first | exact Below.refl _ _ | assumption | refine Bel.alloc ?_ _ | refine Bel.step (by assumption) ?_ | refine Below.drew ?_ | refine Bel.drewN ?_ _ | refine Below.setCell ?_ (by first | exact Nat.le_refl _ | omega | (simp; done) | (simp; omega)) _)⟩
        rw [HT.out.1, HT.out.2]; rfl
open Go.RowKit
set_option linter.unusedVariables false
def leC (C : Ch) (us vs : List (Int × Int)) (e : Int) : Int := if lyC C us vs e = 0 then wC C us vs else lyC C us vs e
def leV (C : Ch) (us vs : List (Int × Int)) (e : Int) : Int × Int × Int := if lyC C us vs e = 0 then wV C us vs e else (0, 0, 0)
theorem le_0 {C : Ch} {us vs : List (Int × Int)} {e : Int} (h : lyC C us vs e = 0) : leC C us vs e = wC C us vs ∧ leV C us vs e = wV C us vs e := by simp [leC, leV, h]
theorem le_no {C : Ch} {us vs : List (Int × Int)} {e : Int} (h : lyC C us vs e ≠ 0) : leC C us vs e = lyC C us vs e ∧ leV C us vs e = (0, 0, 0) := by simp [leC, leV, h]
set_option maxHeartbeats 2000000 in
theorem LayoutError_I (C : Ch) (A : Option Addr) (c : Nat) (D : Option Addr) (d : Nat) (us : List (Int × Int)) (E : Option Addr) (f : Nat) (vs : List (Int × Int)) (e : Int) (hn : C.zs.length ≤ 1048576) (hm : C.nm.size ≤ 1048576) (hu : us.length ≤ 1048576) (hv : vs.length ≤ 1048576) (w : World) (hA : Ints w A C.zs) (hD : Prs w D us) (hE : Prs w E vs) :
    Calls Tryz.prog 42 #[.agg #[.int .i64 C.dg, .int .i64 C.tn, .string C.nm, .slice A C.zs.length c, .int .i64 C.wd, .int .i64 C.lf, .int .i64 C.rt], .slice D us.length d, .slice E vs.length f, .int .i64 e] w fun r w' => r = .returned (.tuple #[.int .i64 (leV C us vs e).1, .int .i64 (leC C us vs e)]) ∧ Below w.heap.size w w' := by
  have HI := Lib.hid hA
  have HD := Lib.hid hD
  have HE := Lib.hid hE
  clear hA hD hE
  go_enter Tryz.func42, Tryz.ntmps42
  go_wp2_with fail
  go_at_call 80; refine (checkSamples_c _ _ _ _ _ us _ _ vs e hn hm hu hv _ (by repeat (with_reducible first | exact HI.out | assumption | refine Ints.drew ?_ | refine Ints.drewN _ ?_ | refine Ints.alloc _ ?_ | refine Ints.step (by assumption) ?_)) (by repeat (with_reducible first | exact HD.out | assumption | refine Prs.drew ?_ | refine Prs.drewN _ ?_ | refine Prs.alloc _ ?_ | refine Prs.step (by assumption) ?_)) (by repeat (with_reducible first | exact HE.out | assumption | refine Prs.drew ?_ | refine Prs.drewN _ ?_ | refine Prs.alloc _ ?_ | refine Prs.step (by assumption) ?_))).mono ?_; rintro r w1 ⟨rfl, hb1⟩
  have HC1 : Blk w1 w.heap.size 30 #[.int .i64 C.dg, .int .i64 C.tn, .string C.nm, .slice A C.zs.length c, .int .i64 C.wd, .int .i64 C.lf, .int .i64 C.rt] := Blk.step hb1 (Blk.new _ _ _)
  have hbel1 : Below w.heap.size w w1 := by repeat (with_reducible first | exact Below.refl _ _ | assumption | refine Bel.alloc ?_ _ | refine Bel.step (by assumption) ?_ | refine Below.drew ?_ | refine Bel.drewN ?_ _ | refine Below.setCell ?_ (by first | exact Nat.le_refl _ | omega | (simp; done) | (simp; omega)) _)
  clear hb1
  by_cases hk : lyC C us vs e = 0
  rotate_left
  · have HK := Lib.hid (le_no hk)
    have b1 : (lyC C us vs e != 0) = true := by simpa using hk
    clear hk
    go_wp2
    go_ret2
    exact ⟨by rw [HK.out.1, HK.out.2]; rfl, by repeat (with_reducible first | exact Below.refl _ _ | assumption | refine Bel.alloc ?_ _ | refine Bel.step (by assumption) ?_ | refine Below.drew ?_ | refine Bel.drewN ?_ _ | refine Below.setCell ?_ (by first | exact Nat.le_refl _ | omega | (simp; done) | (simp; omega)) _)⟩
  have HK := Lib.hid (le_0 hk)
  have HY := Lib.hid (lyC_0 hk)
  rw [hk]
  clear hk
  have p0 : w1.cell? ⟨w.heap.size, 0, none⟩ = some (.int .i64 C.dg) := by rw [HC1.cell]; rfl
  have p1 : w1.cell? ⟨w.heap.size, 1, none⟩ = some (.int .i64 C.tn) := by rw [HC1.cell]; rfl
  have p2 : w1.cell? ⟨w.heap.size, 2, none⟩ = some (.string C.nm) := by rw [HC1.cell]; rfl
  have p3 : w1.cell? ⟨w.heap.size, 3, none⟩ = some (.slice A C.zs.length c) := by rw [HC1.cell]; rfl
  have p4 : w1.cell? ⟨w.heap.size, 4, none⟩ = some (.int .i64 C.wd) := by rw [HC1.cell]; rfl
  have p5 : w1.cell? ⟨w.heap.size, 5, none⟩ = some (.int .i64 C.lf) := by rw [HC1.cell]; rfl
  have p6 : w1.cell? ⟨w.heap.size, 6, none⟩ = some (.int .i64 C.rt) := by rw [HC1.cell]; rfl
  clear HC1
  go_wp2_with fail
  go_at_call 85; refine (worstPair_c _ _ _ _ _ us _ _ vs e hn hm HY.out.1 HY.out.2.1 HY.out.2.2.1 HY.out.2.2.2.1.2 HY.out.2.2.2.2.1.2 HY.out.2.2.2.2.2.1 HY.out.2.2.2.2.2.2 _ (by repeat (with_reducible first | exact HI.out | assumption | refine Ints.drew ?_ | refine Ints.drewN _ ?_ | refine Ints.alloc _ ?_ | refine Ints.step (by assumption) ?_)) (by repeat (with_reducible first | exact HD.out | assumption | refine Prs.drew ?_ | refine Prs.drewN _ ?_ | refine Prs.alloc _ ?_ | refine Prs.step (by assumption) ?_)) (by repeat (with_reducible first | exact HE.out | assumption | refine Prs.drew ?_ | refine Prs.drewN _ ?_ | refine Prs.alloc _ ?_ | refine Prs.step (by assumption) ?_))).mono ?_; rintro r w2 ⟨rfl, hb2⟩
  go_wp2
  go_ret2
  exact ⟨by rw [HK.out.1, HK.out.2]; rfl, by repeat (with_reducible first | exact Below.refl _ _ | assumption | refine Bel.alloc ?_ _ | refine Bel.step (by assumption) ?_ | refine Below.drew ?_ | refine Bel.drewN ?_ _ | refine Below.setCell ?_ (by first | exact Nat.le_refl _ | omega | (simp; done) | (simp; omega)) _)⟩
end Go.Proofs.YtpmcgicopogbhaaGreat
