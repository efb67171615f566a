/- Chapter 26: the worst pair of a layout. Conditions: as stated at each contract. -/
import Derived.Test.YtpmcgicopogbhaaGreatProg
import Derived.Test.YtpmcgicopogbhaaGreatBase
import Derived.Test.YtpmcgicopogbhaaGreatZy
import Derived.Test.YtpmcgicopogbhaaGreatRw
import Derived.Test.YtpmcgicopogbhaaGreatL01
import Derived.Test.YtpmcgicopogbhaaGreatCp
import Derived.Test.YtpmcgicopogbhaaGreatL18
import Derived.Test.YtpmcgicopogbhaaGreatL23
import Derived.Test.YtpmcgicopogbhaaGreatL03
import Derived.Test.YtpmcgicopogbhaaGreatL04
import Derived.Test.YtpmcgicopogbhaaGreatL23d
import Derived.Test.YtpmcgicopogbhaaGreatL23e
import Derived.Test.YtpmcgicopogbhaaGreatL24
import Derived.Test.YtpmcgicopogbhaaGreatL24b
import Derived.Test.YtpmcgicopogbhaaGreatL24c
import Derived.Test.YtpmcgicopogbhaaGreatL24f
import Derived.Test.YtpmcgicopogbhaaGreatL24g
import Derived.Test.YtpmcgicopogbhaaGreatL24r
import Derived.Test.YtpmcgicopogbhaaGreatM24
import Derived.Test.YtpmcgicopogbhaaGreatM24r
import Derived.Test.YtpmcgicopogbhaaGreatL26a
import Derived.WalkKit
import Derived.WalkSpells
import Derived.WalkLawsBesides
import Derived.Lib.Hide
import Derived.Deep.QuietTactic
import Derived.BigQuiet
import Derived.Deep.Draws
import Derived.Deep.RegionHeld3
namespace Go.Proofs.YtpmcgicopogbhaaGreat
set_option linter.unusedSimpArgs false
open Go.RowKit
set_option linter.unusedVariables false
/-- The best so far within a row of pairs: the error and the two places. -/
def wIn (f : Nat → Int) (i : Nat) (s : Int × Int × Int) : Nat → Int × Int × Int
  | 0 => s
  | k + 1 => if (wIn f i s k).1 < f k then (f k, (i : Int), (k : Int)) else wIn f i s k
def wOut (g : Nat → Nat → Int) (m : Nat) : Nat → Int × Int × Int
  | 0 => (-1, 0, 0)
  | i + 1 => wIn (g i) i (wOut g m i) m
def wG (C : Ch) (us vs : List (Int × Int)) (e : Int) (i k : Nat) : Int := reX C (us.getD i (0, 0)).1 (us.getD i (0, 0)).2 (vs.getD k (0, 0)).1 (vs.getD k (0, 0)).2 e
def wT (C : Ch) (us vs : List (Int × Int)) (e : Int) : Int × Int × Int := wOut (wG C us vs e) vs.length us.length
/-- Does each pair have its place? -/
def wOk (C : Ch) (us vs : List (Int × Int)) : Bool := us.all fun u => vs.all fun v => decide (lhC C u.1 u.2 v.1 v.2 = 0)
def wC (C : Ch) (us vs : List (Int × Int)) : Int := if wOk C us vs = true then 0 else 3
theorem wOk_no {C : Ch} {us vs : List (Int × Int)} {i k : Nat} (hi : i < us.length) (hk : k < vs.length) (h : lhC C us[i].1 us[i].2 vs[k].1 vs[k].2 ≠ 0) : wOk C us vs = false := by
  cases hw : wOk C us vs with
  | false => rfl
  | true =>
    have a := List.all_eq_true.1 (List.all_eq_true.1 hw _ (List.getElem_mem hi)) _ (List.getElem_mem hk)
    exact absurd (of_decide_eq_true a) h
theorem wOk_take {C : Ch} {us vs : List (Int × Int)} {i k : Nat} (hi : i < us.length) (hk : k < vs.length) (h1 : ((vs.take k).all fun v => decide (lhC C us[i].1 us[i].2 v.1 v.2 = 0)) = true) (h : lhC C us[i].1 us[i].2 vs[k].1 vs[k].2 = 0) :
    ((vs.take (k + 1)).all fun v => decide (lhC C us[i].1 us[i].2 v.1 v.2 = 0)) = true := by
  rw [List.take_succ_eq_append_getElem hk, List.all_append, h1]
  simp [h]
theorem wOk_row {C : Ch} {us vs : List (Int × Int)} {i : Nat} (hi : i < us.length) (h1 : wOk C (us.take i) vs = true) (h : (vs.all fun v => decide (lhC C us[i].1 us[i].2 v.1 v.2 = 0)) = true) : wOk C (us.take (i + 1)) vs = true := by
  unfold wOk at *
  rw [List.take_succ_eq_append_getElem hi, List.all_append, h1, List.all_cons, h]
  rfl
theorem wIn_bd {f : Nat → Int} {i : Nat} {s : Int × Int × Int} {B N : Int} (hf : ∀ k, -B ≤ f k ∧ f k ≤ B) (hs : -B ≤ s.1 ∧ s.1 ≤ B) (hi : (i : Int) ≤ N) (k : Nat) (hk : (k : Int) ≤ N) (h1 : 0 ≤ s.2.1 ∧ s.2.1 ≤ N) (h2 : 0 ≤ s.2.2 ∧ s.2.2 ≤ N) :
    (-B ≤ (wIn f i s k).1 ∧ (wIn f i s k).1 ≤ B) ∧ (0 ≤ (wIn f i s k).2.1 ∧ (wIn f i s k).2.1 ≤ N) ∧ 0 ≤ (wIn f i s k).2.2 ∧ (wIn f i s k).2.2 ≤ N := by
  induction k with
  | zero => exact ⟨hs, h1, h2⟩
  | succ k ih =>
    have := ih (by omega)
    unfold wIn
    split
    · have := hf k
      simp only
      omega
    · exact this
theorem results_three {fn : Func} {t u v : Tmp} (h : fn.results = #[.tmp t, .tmp u, .tmp v]) (tmps : Array Value) (P : Program) (w : World) :
    (results fn tmps).run P w = .ok (.tuple #[tmps.getD t undef, tmps.getD u undef, tmps.getD v undef]) w := by simp [results, h]
theorem results_four {fn : Func} {t u v x : Tmp} (h : fn.results = #[.tmp t, .tmp u, .tmp v, .tmp x]) (tmps : Array Value) (P : Program) (w : World) :
    (results fn tmps).run P w = .ok (.tuple #[tmps.getD t undef, tmps.getD u undef, tmps.getD v undef, tmps.getD x undef]) w := by simp [results, h]
theorem wT_step {C : Ch} {us vs : List (Int × Int)} {e : Int} {i k : Nat} (hi : i < us.length) (hk : k < vs.length) (s : Int × Int × Int) : wIn (wG C us vs e i) i s (k + 1) = if (wIn (wG C us vs e i) i s k).1 < reX C us[i].1 us[i].2 vs[k].1 vs[k].2 e then (reX C us[i].1 us[i].2 vs[k].1 vs[k].2 e, (i : Int), (k : Int)) else wIn (wG C us vs e i) i s k := by
  have e1 : wG C us vs e i k = reX C us[i].1 us[i].2 vs[k].1 vs[k].2 e := by
    unfold wG
    rw [getD_at _ _ _ hi, getD_at _ _ _ hk]
  rw [← e1]; rfl
theorem okFs_ix {ps : List (Int × Int)} (h : okFs ps = true) {k : Nat} (hk : k < ps.length) : okF ps[k].1 ps[k].2 = true := by simpa using List.all_eq_true.1 h _ (List.getElem_mem hk)
def wV (C : Ch) (us vs : List (Int × Int)) (e : Int) : Int × Int × Int := if wOk C us vs = true then wT C us vs e else (0, 0, 0)
set_option maxRecDepth 50000 in
set_option maxHeartbeats 2000000 in
theorem l26Worst_c (C : Ch) (A : Option Addr) (c : Nat) (D : Option Addr) (d : Nat) (us : List (Int × Int)) (E : Option Addr) (f : Nat) (vs : List (Int × Int)) (e : Int) (hn : C.zs.length ≤ 1048576) (hm : C.nm.size ≤ 1048576) (h : okCh C = true) (hu : okFs us = true) (hv : okFs vs = true) (lu : us.length ≤ 12) (lv : vs.length ≤ 12) (he1 : 0 ≤ e) (he2 : e ≤ 200) (w : World) (hA : Ints w A C.zs) (hD : Prs w D us) (hE : Prs w E vs) :
    Calls Tryz.prog 88 #[.agg #[.int .i64 C.dg, .int .i64 C.tn, .string C.nm, .slice A C.zs.length c, .int .i64 C.wd, .int .i64 C.lf, .int .i64 C.rt], .slice D us.length d, .slice E vs.length f, .int .i64 e] w fun r w' => r = .returned (.tuple #[.int .i64 (wV C us vs e).1, .int .i64 (wV C us vs e).2.1, .int .i64 (wV C us vs e).2.2, .int .i64 (wC C us vs)]) ∧ Below w.heap.size w w' := by
  have HI := Lib.hid hA
  have HD := Lib.hid hD
  have HE := Lib.hid hE
  have H := Lib.hid h
  have HU := Lib.hid hu
  have HV := Lib.hid hv
  clear hA hD hE h hu hv
  go_enter Tryz.func88, Tryz.ntmps88
  go_wp2
  go_loopw [12, 13, 14, 15, 16, 17, 18] (fun most a b i _ _ _ wr => ∃ k : Nat, k ≤ us.length ∧ i = .int .i64 k ∧ most = .int .i64 (wOut (wG C us vs e) vs.length k).1 ∧ a = .int .i64 (wOut (wG C us vs e) vs.length k).2.1 ∧ b = .int .i64 (wOut (wG C us vs e) vs.length k).2.2 ∧ Hid (wOk C (us.take k) vs = true) ∧ Hid (Blk wr w.heap.size 30 #[.int .i64 C.dg, .int .i64 C.tn, .string C.nm, .slice A C.zs.length c, .int .i64 C.wd, .int .i64 C.lf, .int .i64 C.rt]) ∧ Below w.heap.size w wr) (fun _ _ _ i _ _ _ _ => us.length - (intOf i).toNat)
  case atStart => exact ⟨0, Nat.zero_le _, rfl, rfl, rfl, rfl, Lib.hid rfl, Lib.hid (Blk.new _ _ _), by repeat (with_reducible first | exact Below.refl _ _ | assumption | refine Bel.alloc ?_ _ | refine Bel.step (by assumption) ?_ | refine Below.drew ?_ | refine Bel.drewN ?_ _ | refine Below.setCell ?_ (by first | exact Nat.le_refl _ | omega | (simp; done) | (simp; omega)) _)⟩
  case round =>
    obtain ⟨k, hk, rfl, rfl, rfl, rfl, HO, HC, hbel⟩ := hrel
    by_cases hlt : k < us.length
    rotate_left
    · obtain rfl : k = us.length := by omega
      have HT := Lib.hid (show wV C us vs e = wOut (wG C us vs e) vs.length us.length ∧ wC C us vs = 0 by have := HO.out; rw [List.take_length] at this; simp [wV, wC, this, wT])
      go_wp2
      refine bodyPost_ret (results_four rfl _ _ _) rfl ⟨?_, by repeat (with_reducible first | exact Below.refl _ _ | assumption | refine Bel.alloc ?_ _ | refine Bel.step (by assumption) ?_ | refine Below.drew ?_ | refine Bel.drewN ?_ _ | refine Below.setCell ?_ (by first | exact Nat.le_refl _ | omega | (simp; done) | (simp; omega)) _)⟩
      rw [HT.out.1, HT.out.2]; rfl
    obtain ⟨s, hs⟩ : ∃ s, s = wOut (wG C us vs e) vs.length k := ⟨_, rfl⟩
    rw [← hs]
    have HS := Lib.hid (show wOut (wG C us vs e) vs.length (k + 1) = wIn (wG C us vs e k) k s vs.length by rw [hs]; rfl)
    clear hs
    obtain ⟨wo, rfl⟩ : ∃ wo : World, wo = wr := ⟨_, rfl⟩
    go_wp2
    go_loopw [12, 13, 14, 16, 17, 18] (fun most a b j _ _ wr => ∃ l : Nat, l ≤ vs.length ∧ j = .int .i64 l ∧ most = .int .i64 (wIn (wG C us vs e k) k s l).1 ∧ a = .int .i64 (wIn (wG C us vs e k) k s l).2.1 ∧ b = .int .i64 (wIn (wG C us vs e k) k s l).2.2 ∧ Hid (((vs.take l).all fun v => decide (lhC C us[k].1 us[k].2 v.1 v.2 = 0)) = true) ∧ Hid (Blk wr w.heap.size 30 #[.int .i64 C.dg, .int .i64 C.tn, .string C.nm, .slice A C.zs.length c, .int .i64 C.wd, .int .i64 C.lf, .int .i64 C.rt]) ∧ Below w.heap.size w wr) (fun _ _ _ j _ _ _ => vs.length - (intOf j).toNat)
    case atStart => exact ⟨0, Nat.zero_le _, rfl, rfl, rfl, rfl, Lib.hid rfl, HC, hbel⟩
    case round =>
      clear HC hbel
      obtain ⟨l, hl, rfl, rfl, rfl, rfl, HL, HC, hbel⟩ := hrel
      by_cases hlt2 : l < vs.length
      rotate_left
      · obtain rfl : l = vs.length := by omega
        have HO2 := Lib.hid (wOk_row hlt HO.out (by have := HL.out; rw [List.take_length] at this; exact this))
        go_wp2
        go_roundw
        case rel => exact ⟨k + 1, by omega, by go_num, by rw [HS.out], by rw [HS.out], by rw [HS.out], HO2, HC, hbel⟩
        case measure => simp [intOf]; omega
      obtain ⟨bu, ou, rfl, hbu, u0, u1⟩ := (Prs.step hbel HD.out).at_ k hlt
      obtain ⟨bv, ov, rfl, hbv, v0, v1⟩ := (Prs.step hbel HE.out).at_ l hlt2
      have HFu := Lib.hid (okFs_ix HU.out hlt)
      have HFv := Lib.hid (okFs_ix HV.out hlt2)
      have HW := Lib.hid (wT_step (C := C) (e := e) hlt hlt2 s)
      have HOl := Lib.hid (fun hx : lhC C us[k].1 us[k].2 vs[l].1 vs[l].2 = 0 => wOk_take hlt hlt2 HL.out hx)
      have HNo := Lib.hid (fun hx : lhC C us[k].1 us[k].2 vs[l].1 vs[l].2 ≠ 0 => wOk_no hlt hlt2 hx)
      generalize us[k].1 = ud at *
      generalize us[k].2 = ut at *
      generalize vs[l].1 = vd at *
      generalize vs[l].2 = vt at *
      have HR := Lib.hid (rq_0 (C := C) (ud := ud) (ut := ut) (vd := vd) (vt := vt) (e := e) (by have a := HFu.out; have b := HFv.out; have c := H.out; have d := inB_iff.2 ⟨he1, he2⟩; simp [clC, a, b, c, d]))
      have HIr := Lib.hid (Ints.step hbel HI.out)
      have p0 : wr.cell? ⟨w.heap.size, 0, none⟩ = some (.int .i64 C.dg) := by rw [HC.out.cell]; rfl
      have p1 : wr.cell? ⟨w.heap.size, 1, none⟩ = some (.int .i64 C.tn) := by rw [HC.out.cell]; rfl
      have p2 : wr.cell? ⟨w.heap.size, 2, none⟩ = some (.string C.nm) := by rw [HC.out.cell]; rfl
      have p3 : wr.cell? ⟨w.heap.size, 3, none⟩ = some (.slice A C.zs.length c) := by rw [HC.out.cell]; rfl
      have p4 : wr.cell? ⟨w.heap.size, 4, none⟩ = some (.int .i64 C.wd) := by rw [HC.out.cell]; rfl
      have p5 : wr.cell? ⟨w.heap.size, 5, none⟩ = some (.int .i64 C.lf) := by rw [HC.out.cell]; rfl
      have p6 : wr.cell? ⟨w.heap.size, 6, none⟩ = some (.int .i64 C.rt) := by rw [HC.out.cell]; rfl
      have clt := HC.out.lt
      have HCr := Lib.hid HC.out
      clear HC
      by_cases hc : lhC C ud ut vd vt = 0
      · have HO3 := Lib.hid (HOl.out hc)
        have hq : rqC C ud ut vd vt e = 0 := by rw [HR.out.1]; exact hc
        have hr : rrV C ud ut vd vt e = reX C ud ut vd vt e := by simp [rrV, hq]
        clear hc
        generalize reX C ud ut vd vt e = x at *
        generalize wIn (wG C us vs e k) k s l = t at *
        by_cases hx : t.1 < x
        · have HX := Lib.hid (show wIn (wG C us vs e k) k s (l + 1) = (x, (k : Int), (l : Int)) by rw [HW.out, if_pos hx])
          go_wp2
          go_region_held3 (fun w' => (w'.cell? ⟨w.heap.size, 0, none⟩ = some (.int .i64 C.dg) ∧ w'.cell? ⟨w.heap.size, 1, none⟩ = some (.int .i64 C.tn) ∧ w'.cell? ⟨w.heap.size, 2, none⟩ = some (.string C.nm) ∧ w'.cell? ⟨w.heap.size, 3, none⟩ = some (.slice A C.zs.length c) ∧ w'.cell? ⟨w.heap.size, 4, none⟩ = some (.int .i64 C.wd) ∧ w'.cell? ⟨w.heap.size, 5, none⟩ = some (.int .i64 C.lf) ∧ w'.cell? ⟨w.heap.size, 6, none⟩ = some (.int .i64 C.rt)) ∧ w'.cell? ⟨bu, ou + k * 2, none⟩ = some (.int .i64 ud) ∧ w'.cell? ⟨bu, ou + k * 2 + 1, none⟩ = some (.int .i64 ut) ∧ w'.cell? ⟨bv, ov + l * 2, none⟩ = some (.int .i64 vd) ∧ w'.cell? ⟨bv, ov + l * 2 + 1, none⟩ = some (.int .i64 vt)) (simp [go_sem, *])
              (first | (go_at_call 130; refine (ReadingError_S _ _ _ _ _ _ _ _ hn hm _ (by repeat (with_reducible first | exact HIr.out | assumption | refine Ints.drew ?_ | refine Ints.drewN _ ?_ | refine Ints.alloc _ ?_ | refine Ints.step (by assumption) ?_))).mono ?_; rintro e w1 ⟨rfl, hb1⟩; obtain ⟨hc1, hf1, hz1⟩ := bel hb1; (try simp only [World.size_drew, World.cell?_drew, World.frozen?_drew, World.heap_drewN, World.cell?_drewN, World.frozen?_drewN] at hc1 hf1 hz1); (try have hl1 : w.heap.size < w1.heap.size := zl hb1); (try have hm1 : w.heap.size + 1 < w1.heap.size := zl hb1); (try have hn1 : w.heap.size + 1 + 1 < w1.heap.size := zl hb1); (try have hp1 : b < w1.heap.size := zl hb1); (try have ho1 : b' < w1.heap.size := by (have hq := hb1.size; (try simp at hq); omega))))
          have HC2 := Lib.hid (Blk.step hb1 (Blk.drew HCr.out))
          have hbel1 : Below w.heap.size w w1 := by repeat (with_reducible first | exact Below.refl _ _ | assumption | refine Bel.alloc ?_ _ | refine Bel.step (by assumption) ?_ | refine Below.drew ?_ | refine Bel.drewN ?_ _ | refine Below.setCell ?_ (by first | exact Nat.le_refl _ | omega | (simp; done) | (simp; omega)) _)
          clear hb1 hc1 hf1 hz1 p0 p1 p2 p3 p4 p5 p6 u0 u1 v0 v1 hq hr
          go_wp2
          go_roundw
          case rel => exact ⟨l + 1, by omega, by go_num, by rw [HX.out], by rw [HX.out], by rw [HX.out], HO3, HC2, hbel1⟩
          case measure => simp [intOf]; omega
        · have HX := Lib.hid (show wIn (wG C us vs e k) k s (l + 1) = t by rw [HW.out, if_neg hx])
          go_wp2
          go_region_held3 (fun w' => (w'.cell? ⟨w.heap.size, 0, none⟩ = some (.int .i64 C.dg) ∧ w'.cell? ⟨w.heap.size, 1, none⟩ = some (.int .i64 C.tn) ∧ w'.cell? ⟨w.heap.size, 2, none⟩ = some (.string C.nm) ∧ w'.cell? ⟨w.heap.size, 3, none⟩ = some (.slice A C.zs.length c) ∧ w'.cell? ⟨w.heap.size, 4, none⟩ = some (.int .i64 C.wd) ∧ w'.cell? ⟨w.heap.size, 5, none⟩ = some (.int .i64 C.lf) ∧ w'.cell? ⟨w.heap.size, 6, none⟩ = some (.int .i64 C.rt)) ∧ w'.cell? ⟨bu, ou + k * 2, none⟩ = some (.int .i64 ud) ∧ w'.cell? ⟨bu, ou + k * 2 + 1, none⟩ = some (.int .i64 ut) ∧ w'.cell? ⟨bv, ov + l * 2, none⟩ = some (.int .i64 vd) ∧ w'.cell? ⟨bv, ov + l * 2 + 1, none⟩ = some (.int .i64 vt)) (simp [go_sem, *])
              (first | (go_at_call 130; refine (ReadingError_S _ _ _ _ _ _ _ _ hn hm _ (by repeat (with_reducible first | exact HIr.out | assumption | refine Ints.drew ?_ | refine Ints.drewN _ ?_ | refine Ints.alloc _ ?_ | refine Ints.step (by assumption) ?_))).mono ?_; rintro e w1 ⟨rfl, hb1⟩; obtain ⟨hc1, hf1, hz1⟩ := bel hb1; (try simp only [World.size_drew, World.cell?_drew, World.frozen?_drew, World.heap_drewN, World.cell?_drewN, World.frozen?_drewN] at hc1 hf1 hz1); (try have hl1 : w.heap.size < w1.heap.size := zl hb1); (try have hm1 : w.heap.size + 1 < w1.heap.size := zl hb1); (try have hn1 : w.heap.size + 1 + 1 < w1.heap.size := zl hb1); (try have hp1 : b < w1.heap.size := zl hb1); (try have ho1 : b' < w1.heap.size := by (have hq := hb1.size; (try simp at hq); omega))))
          have HC2 := Lib.hid (Blk.step hb1 (Blk.drew HCr.out))
          have hbel1 : Below w.heap.size w w1 := by repeat (with_reducible first | exact Below.refl _ _ | assumption | refine Bel.alloc ?_ _ | refine Bel.step (by assumption) ?_ | refine Below.drew ?_ | refine Bel.drewN ?_ _ | refine Below.setCell ?_ (by first | exact Nat.le_refl _ | omega | (simp; done) | (simp; omega)) _)
          clear hb1 hc1 hf1 hz1 p0 p1 p2 p3 p4 p5 p6 u0 u1 v0 v1 hq hr
          go_wp2
          go_roundw
          case rel => exact ⟨l + 1, by omega, by go_num, by rw [HX.out], by rw [HX.out], by rw [HX.out], HO3, HC2, hbel1⟩
          case measure => simp [intOf]; omega
      · have HT := Lib.hid (show wV C us vs e = (0, 0, 0) ∧ wC C us vs = 3 by have := HNo.out hc; simp [wV, wC, this])
        have hq : rqC C ud ut vd vt e = 3 := by
          rw [HR.out.1]; unfold lhC at hc ⊢; split <;> simp_all
        clear hc
        go_wp2
        go_region_held3 (fun w' => (w'.cell? ⟨w.heap.size, 0, none⟩ = some (.int .i64 C.dg) ∧ w'.cell? ⟨w.heap.size, 1, none⟩ = some (.int .i64 C.tn) ∧ w'.cell? ⟨w.heap.size, 2, none⟩ = some (.string C.nm) ∧ w'.cell? ⟨w.heap.size, 3, none⟩ = some (.slice A C.zs.length c) ∧ w'.cell? ⟨w.heap.size, 4, none⟩ = some (.int .i64 C.wd) ∧ w'.cell? ⟨w.heap.size, 5, none⟩ = some (.int .i64 C.lf) ∧ w'.cell? ⟨w.heap.size, 6, none⟩ = some (.int .i64 C.rt)) ∧ w'.cell? ⟨bu, ou + k * 2, none⟩ = some (.int .i64 ud) ∧ w'.cell? ⟨bu, ou + k * 2 + 1, none⟩ = some (.int .i64 ut) ∧ w'.cell? ⟨bv, ov + l * 2, none⟩ = some (.int .i64 vd) ∧ w'.cell? ⟨bv, ov + l * 2 + 1, none⟩ = some (.int .i64 vt)) (simp [go_sem, *])
            (first | (go_at_call 130; refine (ReadingError_S _ _ _ _ _ _ _ _ hn hm _ (by repeat (with_reducible first | exact HIr.out | assumption | refine Ints.drew ?_ | refine Ints.drewN _ ?_ | refine Ints.alloc _ ?_ | refine Ints.step (by assumption) ?_))).mono ?_; rintro e w1 ⟨rfl, hb1⟩; obtain ⟨hc1, hf1, hz1⟩ := bel hb1; (try simp only [World.size_drew, World.cell?_drew, World.frozen?_drew, World.heap_drewN, World.cell?_drewN, World.frozen?_drewN] at hc1 hf1 hz1); (try have hl1 : w.heap.size < w1.heap.size := zl hb1); (try have hm1 : w.heap.size + 1 < w1.heap.size := zl hb1); (try have hn1 : w.heap.size + 1 + 1 < w1.heap.size := zl hb1); (try have hp1 : b < w1.heap.size := zl hb1); (try have ho1 : b' < w1.heap.size := by (have hq := hb1.size; (try simp at hq); omega))))
        go_wp2
        refine bodyPost_ret (results_four rfl _ _ _) rfl ⟨?_, by repeat (with_reducible first | exact Below.refl _ _ | assumption | refine Bel.alloc ?_ _ | refine Bel.step (by assumption) ?_ | refine Below.drew ?_ | refine Bel.drewN ?_ _ | refine Below.setCell ?_ (by first | exact Nat.le_refl _ | omega | (simp; done) | (simp; omega)) _)⟩
        rw [HT.out.1, HT.out.2]; rfl
end Go.Proofs.YtpmcgicopogbhaaGreat
