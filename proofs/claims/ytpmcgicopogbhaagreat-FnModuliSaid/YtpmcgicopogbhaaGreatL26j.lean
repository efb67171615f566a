/- The heights of a layout, of the program. Conditions: as stated at each contract. -/
import Derived.Test.YtpmcgicopogbhaaGreatProg
import Derived.Test.YtpmcgicopogbhaaGreatBase
import Derived.Test.YtpmcgicopogbhaaGreatRw
import Derived.Test.YtpmcgicopogbhaaGreatL01
import Derived.Test.YtpmcgicopogbhaaGreatCp
import Derived.Test.YtpmcgicopogbhaaGreatL18
import Derived.Test.YtpmcgicopogbhaaGreatL23
import Derived.Test.YtpmcgicopogbhaaGreatL03
import Derived.Test.YtpmcgicopogbhaaGreatL04
import Derived.Test.YtpmcgicopogbhaaGreatL23d
import Derived.Test.YtpmcgicopogbhaaGreatL23e
import Derived.Test.YtpmcgicopogbhaaGreatL24
import Derived.Test.YtpmcgicopogbhaaGreatL24b
import Derived.Test.YtpmcgicopogbhaaGreatL24c
import Derived.Test.YtpmcgicopogbhaaGreatL24f
import Derived.Test.YtpmcgicopogbhaaGreatL24g
import Derived.Test.YtpmcgicopogbhaaGreatL24r
import Derived.Test.YtpmcgicopogbhaaGreatL23g
import Derived.Test.YtpmcgicopogbhaaGreatL23h
import Derived.Test.YtpmcgicopogbhaaGreatL26a
import Derived.Test.YtpmcgicopogbhaaGreatL26b
import Derived.Test.YtpmcgicopogbhaaGreatL26h
import Derived.WalkKit
import Derived.WalkSpells
import Derived.WalkLawsBesides
import Derived.Lib.Hide
import Derived.Deep.QuietTactic
import Derived.BigQuiet
import Derived.Deep.Draws
import Derived.Deep.RegionHeld3
import Derived.Deep.AppendLies
namespace Go.Proofs.YtpmcgicopogbhaaGreat
open Go.RowKit
set_option linter.unusedVariables false
set_option linter.unusedSimpArgs false
set_option maxRecDepth 50000 in
set_option maxHeartbeats 4000000 in
theorem heightOf_c (C : Ch) (A : Option Addr) (c : Nat) (D : Option Addr) (d : Nat) (us : List (Int × Int)) (E : Option Addr) (f : Nat) (vs : List (Int × Int)) (hn : C.zs.length ≤ 1048576) (hm : C.nm.size ≤ 1048576) (h : okCh C = true) (hu : okFs us = true) (hv : okFs vs = true) (lu0 : 1 ≤ us.length) (lu : us.length ≤ 12) (lv0 : 1 ≤ vs.length) (lv : vs.length ≤ 12) (w : World) (hA : Ints w A C.zs) (hD : Prs w D us) (hE : Prs w E vs) :
    Calls Tryz.prog 84 #[.agg #[.int .i64 C.dg, .int .i64 C.tn, .string C.nm, .slice A C.zs.length c, .int .i64 C.wd, .int .i64 C.lf, .int .i64 C.rt], .slice D us.length d, .slice E vs.length f] w fun r w' => r = .returned (.tuple #[.int .i64 (htV C us vs), .int .i64 (htC C us vs)]) ∧ Below w.heap.size w w' := by
  have HI := Lib.hid hA
  have HD := Lib.hid hD
  have HE := Lib.hid hE
  have H := Lib.hid h
  have HU := Lib.hid hu
  have HV := Lib.hid hv
  clear hA hD hE h hu hv
  go_enter Tryz.func84, Tryz.ntmps84
  go_wp2_with fail
  go_at_call 73; refine (chartPoints_c C A c 0 D d us H.out HU.out rfl (by omega) _ (by repeat (with_reducible first | exact HI.out | assumption | refine Ints.drew ?_ | refine Ints.drewN _ ?_ | refine Ints.alloc _ ?_ | refine Ints.step (by assumption) ?_)) (by repeat (with_reducible first | exact HD.out | assumption | refine Prs.drew ?_ | refine Prs.drewN _ ?_ | refine Prs.alloc _ ?_ | refine Prs.step (by assumption) ?_))).mono ?_; rintro r w1 ⟨v1, rfl, hO1, hb1⟩
  have HC1 : Blk w1 w.heap.size 30 #[.int .i64 C.dg, .int .i64 C.tn, .string C.nm, .slice A C.zs.length c, .int .i64 C.wd, .int .i64 C.lf, .int .i64 C.rt] := Blk.step hb1 (Blk.new _ _ _)
  have hbel1 : Below w.heap.size w w1 := by repeat (with_reducible first | exact Below.refl _ _ | assumption | refine Bel.alloc ?_ _ | refine Bel.step (by assumption) ?_ | refine Below.drew ?_ | refine Bel.drewN ?_ _ | refine Below.setCell ?_ (by first | exact Nat.le_refl _ | omega | (simp; done) | (simp; omega)) _)
  simp only [World.size_alloc] at hO1
  have l1 := HC1.lt
  clear hb1
  cases h0 : us.all (ptOk C 0)
  · have HX := Lib.hid (ht_p0 (vs := vs) h0)
    rw [show pcC C 0 us = 3 by simp [pcC, h0]]
    clear h0
    go_wp2
    go_ret2
    exact ⟨by rw [HX.out.1, HX.out.2]; rfl, by repeat (with_reducible first | exact Below.refl _ _ | assumption | refine Bel.alloc ?_ _ | refine Bel.step (by assumption) ?_ | refine Below.drew ?_ | refine Bel.drewN ?_ _ | refine Below.setCell ?_ (by first | exact Nat.le_refl _ | omega | (simp; done) | (simp; omega)) _)⟩
  rw [show pcC C 0 us = 0 by simp [pcC, h0]]
  rw [show pcV C 0 us = us.map (ptOf C 0) by simp [pcV, h0]] at hO1
  have H0 := Lib.hid h0
  clear h0
  have p0 : w1.cell? ⟨w.heap.size, 0, none⟩ = some (.int .i64 C.dg) := by rw [HC1.cell]; rfl
  have p1 : w1.cell? ⟨w.heap.size, 1, none⟩ = some (.int .i64 C.tn) := by rw [HC1.cell]; rfl
  have p2 : w1.cell? ⟨w.heap.size, 2, none⟩ = some (.string C.nm) := by rw [HC1.cell]; rfl
  have p3 : w1.cell? ⟨w.heap.size, 3, none⟩ = some (.slice A C.zs.length c) := by rw [HC1.cell]; rfl
  have p4 : w1.cell? ⟨w.heap.size, 4, none⟩ = some (.int .i64 C.wd) := by rw [HC1.cell]; rfl
  have p5 : w1.cell? ⟨w.heap.size, 5, none⟩ = some (.int .i64 C.lf) := by rw [HC1.cell]; rfl
  have p6 : w1.cell? ⟨w.heap.size, 6, none⟩ = some (.int .i64 C.rt) := by rw [HC1.cell]; rfl
  go_wp2_with fail
  go_at_call 73; refine (chartPoints_c C A c 1 E f vs H.out HV.out rfl (by omega) _ (by repeat (with_reducible first | exact HI.out | assumption | refine Ints.drew ?_ | refine Ints.drewN _ ?_ | refine Ints.alloc _ ?_ | refine Ints.step (by assumption) ?_)) (by repeat (with_reducible first | exact HE.out | assumption | refine Prs.drew ?_ | refine Prs.drewN _ ?_ | refine Prs.alloc _ ?_ | refine Prs.step (by assumption) ?_))).mono ?_; rintro r w2 ⟨v2, rfl, hO2, hb2⟩
  have HC2 : Blk w2 w.heap.size 30 #[.int .i64 C.dg, .int .i64 C.tn, .string C.nm, .slice A C.zs.length c, .int .i64 C.wd, .int .i64 C.lf, .int .i64 C.rt] := Blk.step hb2 HC1
  have hbel2 : Below w.heap.size w w2 := by repeat (with_reducible first | exact Below.refl _ _ | assumption | refine Bel.alloc ?_ _ | refine Bel.step (by assumption) ?_ | refine Below.drew ?_ | refine Bel.drewN ?_ _ | refine Below.setCell ?_ (by first | exact Nat.le_refl _ | omega | (simp; done) | (simp; omega)) _)
  have hO1b := OwnP.step hb2 hO1
  have l2 := hb2.size
  clear hb2 hO1 HC1 p0 p1 p2 p3 p4 p5 p6
  cases h1 : vs.all (ptOk C 1)
  · have HX := Lib.hid (ht_p1 (us := us) h1)
    rw [show pcC C 1 vs = 3 by simp [pcC, h1]]
    clear h1
    go_wp2
    go_ret2
    exact ⟨by rw [HX.out.1, HX.out.2]; rfl, by repeat (with_reducible first | exact Below.refl _ _ | assumption | refine Bel.alloc ?_ _ | refine Bel.step (by assumption) ?_ | refine Below.drew ?_ | refine Bel.drewN ?_ _ | refine Below.setCell ?_ (by first | exact Nat.le_refl _ | omega | (simp; done) | (simp; omega)) _)⟩
  rw [show pcC C 1 vs = 0 by simp [pcC, h1]]
  rw [show pcV C 1 vs = vs.map (ptOf C 1) by simp [pcV, h1]] at hO2
  have H1 := Lib.hid h1
  clear h1
  obtain ⟨ps, hps⟩ : ∃ ps, ps = us.map (ptOf C 0) ++ vs.map (ptOf C 1) := ⟨_, rfl⟩
  have hpl : ps.length = us.length + vs.length := by rw [hps]; simp
  have HYd := Lib.hid (show hY C us vs = ps.map (·.2) by rw [hps]; rfl)
  obtain ⟨q1, hq1⟩ : ∃ q, q = us.map (ptOf C 0) := ⟨_, rfl⟩
  obtain ⟨q2, hq2⟩ : ∃ q, q = vs.map (ptOf C 1) := ⟨_, rfl⟩
  have hl1 : q1.length = us.length := by rw [hq1]; simp
  have hl2 : q2.length = vs.length := by rw [hq2]; simp
  rw [← hq1] at hO1b
  rw [← hq2] at hO2
  rw [← hq1, ← hq2] at hps
  clear hq1 hq2
  obtain ⟨A2, c2, rfl, _, _, hP2, _⟩ := hO2.form
  clear hO2
  have hOl := Own.new w2 (w.heap.size + 1) 2 (by omega)
  have hp24 : ps.length ≤ 24 := by omega
  have HPL := Lib.hid hpl
  have HL1 := Lib.hid hl1
  have HL2 := Lib.hid hl2
  clear hpl hl1 hl2
  go_wp2_with (at_builtin; refine wpList_appNP rfl _ _ 99 rfl (w.heap.size + 1) 120 _ Tryz.underlying99 infoPt (by rfl) v1 q1 rfl (OwnP.alloc _ hO1b) A2 c2 q2 (Prs.step (Bel.alloc (Below.refl _ _) _) hP2) rfl (by have := HL2.out; omega) (by have := HL1.out; have := HL2.out; omega) (by simp; omega) ?_; intro v3 w3 hO3 hg3 hq3; rw [← hps] at hO3; obtain ⟨A3, c3, rfl, _, _, hP3, hf3⟩ := hO3.form)
  obtain ⟨g3, cur3, rfl, hge3, hB3, _, _⟩ := hf3 (by have := HPL.out; omega)
  have hg3n : g3 ≠ w2.heap.size := by
    rcases hq3 g3 rfl with e | e
    · have := (hO1b.lt _ e).2; omega
    · simp only [World.size_alloc] at e; omega
  have hOl3 := Own.kept hOl hg3 (.inr fun e => Nat.lt_irrefl _ (hO1b.lt _ e.symm).2)
  have HC3 := Blk.grown (Blk.alloc (.cells #[] 2) HC2) hg3 (fun e => by have := (hO1b.lt _ e.symm).1; omega)
  have hbel3 := Bel.grown (Bel.alloc hbel2 (.cells #[] 2)) hg3 (fun k hk => by have := (hO1b.lt _ hk).1; omega)
  have HNE := Lib.hid (show (Value.slice (some ⟨w2.heap.size, 0, none⟩) 0 0).ownBlock ≠ some g3 from fun e => hg3n (by injection e with e; exact e.symm))
  clear hO3 hq3 hg3 hO1b hP2 HC2 hbel2 hOl hB3 hg3n hf3
  go_loopw [11, 13, 43] (fun v _ i wr => ∃ k : Nat, k ≤ ps.length ∧ i = .int .i64 k ∧ Own wr (w.heap.size + 1) 2 v ((ps.take k).map (·.2)) ∧ Hid (v.ownBlock ≠ some g3) ∧ Hid (Prs wr (some ⟨g3, 0, none⟩) ps) ∧ Hid (Blk wr w.heap.size 30 #[.int .i64 C.dg, .int .i64 C.tn, .string C.nm, .slice A C.zs.length c, .int .i64 C.wd, .int .i64 C.lf, .int .i64 C.rt]) ∧ Below w.heap.size w wr) (fun _ _ i _ => ps.length - (intOf i).toNat)
  case atStart => exact ⟨0, Nat.zero_le _, rfl, hOl3, HNE, Lib.hid hP3, Lib.hid HC3, hbel3⟩
  case round =>
    clear hOl3 hP3 HC3 hbel3 HNE
    obtain ⟨k, hk, rfl, hO, HN, HP, HC, hbel⟩ := hrel
    by_cases hlt : k < ps.length
    · have hlt' : (k : Int) < (q1.length : Int) + q2.length := by have := HPL.out; have := HL1.out; have := HL2.out; omega
      obtain ⟨b, o, e, hb, c0, c1⟩ := HP.out.at_ k hlt
      cases e
      simp only [Nat.zero_add] at c0 c1
      have HT := Lib.hid (show (ps.take (k + 1)).map (·.2) = (ps.take k).map (·.2) ++ [ps[k].2] by rw [List.take_succ_eq_append_getElem hlt, List.map_append]; rfl)
      generalize ps[k].1 = px at *
      generalize ps[k].2 = py at *
      have hlk : ((ps.take k).map (·.2)).length ≤ 24 := by have := HPL.out; simp; omega
      have HLK := Lib.hid hlk
      have clt := HC.out.lt
      have HO := Lib.hid hO
      have HBy := Lib.hid (show Blk ((wr.alloc (.cells #[.int .i64 px, .int .i64 py] 120)).alloc (.cells #[.int .i64 py] 2)) (wr.heap.size + 1) 2 #[.int .i64 py] by have h := Blk.new (wr.alloc (.cells #[.int .i64 px, .int .i64 py] 120)) 2 #[.int .i64 py]; simp only [World.size_alloc] at h; exact h)
      clear hlk hO
      go_wp2_with (at_builtin; refine wpList_appNL rfl _ _ 26 rfl (w.heap.size + 1) 2 Tryz.underlying26 info64 _ _ rfl (Own.alloc _ (Own.alloc _ HO.out)) (wr.heap.size + 1) 1 1 #[.int .i64 py] 2 HBy.out (by rfl) [py] rfl rfl (by omega) (by have := HLK.out; omega) (by simp; omega) ?_; intro v4 w4 hO4 hg4 hq4)
      have H4 := Lib.hid (show Own w4 (w.heap.size + 1) 2 v4 ((ps.take (k + 1)).map (·.2)) by rw [HT.out]; exact hO4)
      have hN4 := Lib.hid (show v4.ownBlock ≠ some g3 from fun e => by
        rcases hq4 g3 e with e | e
        · exact HN.out e
        · simp only [World.size_alloc] at e; omega)
      have HP4 := Lib.hid (Prs.grown hg4 hg4.size HN.out (Prs.step (Bel.alloc (Bel.alloc (Below.refl _ _) _) _) HP.out))
      have HC4 := Lib.hid (Blk.grown (Blk.alloc _ (Blk.alloc _ HC.out)) hg4 (fun e => by have := (HO.out.lt _ e.symm).1; omega))
      have hbel4 := Bel.grown (Bel.alloc (Bel.alloc hbel _) _) hg4 (fun k hk => by have := (HO.out.lt _ hk).1; omega)
      clear hO4 hg4 hq4 HP HC HO hbel c0 c1 HN
      go_wp2
      go_roundw
      case rel => exact ⟨k + 1, by omega, by go_num, H4.out, hN4, HP4, HC4, hbel4⟩
      case measure => simp [intOf]; omega
    have hlt' : ¬ (k : Int) < (q1.length : Int) + q2.length := by have := HPL.out; have := HL1.out; have := HL2.out; omega
    have hke : k = ps.length := by omega
    rw [hke, List.take_length, ← HYd.out] at hO
    rw [show hY C us vs = hY C us vs ++ hAl C us vs 0 by simp [hAl]] at hO
    have hOy := hO
    have hyl : (hY C us vs).length ≤ 24 := by rw [HYd.out]; simpa using hp24
    have HYL := Lib.hid hyl
    clear hO HN HP hyl hlt hk hke hp24 hps HYd HPL
    go_wp2
    go_loopw [11, 15, 17, 18, 19, 55, 59, 60, 61] (fun v _ _ _ _ i _ _ _ wr => ∃ k : Nat, k ≤ us.length ∧ i = .int .i64 k ∧ Own wr (w.heap.size + 1) 2 v (hY C us vs ++ hAl C us vs k) ∧ Hid (wOk C (us.take k) vs = true) ∧ Hid (Blk wr w.heap.size 30 #[.int .i64 C.dg, .int .i64 C.tn, .string C.nm, .slice A C.zs.length c, .int .i64 C.wd, .int .i64 C.lf, .int .i64 C.rt]) ∧ Below w.heap.size w wr) (fun _ _ _ _ _ i _ _ _ _ => us.length - (intOf i).toNat)
    case atStart => exact ⟨0, Nat.zero_le _, rfl, hOy, Lib.hid rfl, HC, hbel⟩
    case round =>
      clear hOy HC hbel hlt'
      obtain ⟨k, hk, rfl, hO, HW, HC, hbel⟩ := hrel
      by_cases hlt : k < us.length
      rotate_left
      · obtain rfl : k = us.length := by omega
        obtain ⟨A9, c9, rfl, _, _, hI9, _⟩ := hO.form
        clear hO
        rw [show hY C us vs ++ hAl C us vs us.length = hL C us vs from rfl] at hI9 ⊢
        have HT := Lib.hid (ht_0 H0.out H1.out (by have := HW.out; rw [List.take_length] at this; exact this))
        have HBd := Lib.hid (hL_bd H.out H0.out H1.out (by have := HW.out; rw [List.take_length] at this; exact this))
        have hll : (hL C us vs).length ≤ 1048576 ∧ 0 < (hL C us vs).length := by
          have h1 := hAl_len C us vs us.length (Nat.le_refl _)
          have h2 : us.length * (2 * vs.length) ≤ 12 * 24 := Nat.mul_le_mul lu (by omega)
          have h3 : (hY C us vs).length = us.length + vs.length := by simp [hY]
          unfold hL
          rw [List.length_append]
          omega
        generalize hL C us vs = L at *
        have b1 := mxP_bd HBd.out hll.2 L.length (Nat.le_refl _)
        have b2 := mnP_bd HBd.out hll.2 L.length (Nat.le_refl _)
        have HI9 := Lib.hid hI9
        clear hI9
        go_wp2_with fail
        go_at_call 125; refine (slicesMax_c A9 c9 L hll.2 hll.1 _ HI9.out).mono ?_; rintro r w5 ⟨rfl, hb5⟩
        have HI5 := Lib.hid (Ints.step hb5 HI9.out)
        have hbel5 := Bel.step hb5 hbel
        clear hb5
        go_wp2_with fail
        go_at_call 126; refine (slicesMin_c A9 c9 L hll.2 hll.1 _ HI5.out).mono ?_; rintro r w6 ⟨rfl, hb6⟩
        have hbel6 := Bel.step hb6 hbel5
        clear hb6
        go_wp2
        go_ret2
        exact ⟨by rw [HT.out.1, HT.out.2]; rfl, hbel6⟩
      obtain ⟨bu, ou, rfl, hbu, u0, u1⟩ := (Prs.step hbel HD.out).at_ k hlt
      have HFu := Lib.hid (okFs_ix HU.out hlt)
      have HWr := Lib.hid (fun hx : (vs.all fun v => decide (lhC C us[k].1 us[k].2 v.1 v.2 = 0)) = true => wOk_row hlt HW.out hx)
      have HNs := Lib.hid (fun (l : Nat) (hl : l < vs.length) hx => wOk_no (C := C) hlt hl hx)
      have HOs := Lib.hid (fun (l : Nat) (hl : l < vs.length) h1 h2 => wOk_take (C := C) hlt hl h1 h2)
      have HAs := Lib.hid (hAl_step (C := C) (vs := vs) hlt)
      have HAn := Lib.hid (hAl_len C us vs k (by omega))
      have HRs := Lib.hid (fun (l : Nat) (hl : l < vs.length) => hR_step (C := C) (u := us[k]) hl)
      have HRn := Lib.hid (fun l => hR_len C us[k] vs l)
      have HR0 := Lib.hid (show hR C us[k] vs 0 = [] from rfl)
      obtain ⟨wo, rfl⟩ : ∃ wo : World, wo = wr := ⟨_, rfl⟩
      generalize hR C us[k] vs = RR at *
      generalize us[k].1 = ud at *
      generalize us[k].2 = ut at *
      have hyk : (hY C us vs ++ hAl C us vs k).length ≤ 1000 := by
        have h1 := HAn.out
        have h2 : k * (2 * vs.length) ≤ 12 * 24 := Nat.mul_le_mul (by omega) (by omega)
        have h3 := HYL.out
        rw [List.length_append]
        omega
      have HYK := Lib.hid hyk
      have HO0 := Lib.hid hO
      have HC1 := Lib.hid (Blk.alloc (.cells #[.int .i64 ud, .int .i64 ut] 25) HC.out)
      have HB1 := Lib.hid (Blk.new wo 25 #[.int .i64 ud, .int .i64 ut])
      have hbel1 : Below w.heap.size w (wo.alloc (.cells #[.int .i64 ud, .int .i64 ut] 25)) := by repeat (with_reducible first | exact Below.refl _ _ | assumption | refine Bel.alloc ?_ _ | refine Bel.step (by assumption) ?_ | refine Below.drew ?_ | refine Bel.drewN ?_ _ | refine Below.setCell ?_ (by first | exact Nat.le_refl _ | omega | (simp; done) | (simp; omega)) _)
      clear HC hyk hO HAn
      go_wp2
      go_loopw [11, 17, 18, 19, 61] (fun v _ _ _ j wr => ∃ l : Nat, l ≤ vs.length ∧ j = .int .i64 l ∧ Own wr (w.heap.size + 1) 2 v (hY C us vs ++ hAl C us vs k ++ RR l) ∧ Hid (v.ownBlock ≠ some wo.heap.size) ∧ Hid (((vs.take l).all fun v => decide (lhC C ud ut v.1 v.2 = 0)) = true) ∧ Hid (Blk wr w.heap.size 30 #[.int .i64 C.dg, .int .i64 C.tn, .string C.nm, .slice A C.zs.length c, .int .i64 C.wd, .int .i64 C.lf, .int .i64 C.rt]) ∧ Hid (Blk wr wo.heap.size 25 #[.int .i64 ud, .int .i64 ut]) ∧ Below w.heap.size w wr) (fun _ _ _ _ j _ => vs.length - (intOf j).toNat)
      case atStart => exact ⟨0, Nat.zero_le _, rfl, by rw [HR0.out, List.append_nil]; exact Own.alloc _ HO0.out, Lib.hid (fun e => Nat.lt_irrefl _ (HO0.out.lt _ e).2), Lib.hid rfl, HC1, HB1, hbel1⟩
      case round =>
        clear hbel u0 u1 HC1 HB1 hbel1 HO0 HR0
        obtain ⟨l, hl, rfl, hO, HN, HL, HC, HB, hbel⟩ := hrel
        by_cases hlt2 : l < vs.length
        rotate_left
        · obtain rfl : l = vs.length := by omega
          have HO2 := Lib.hid (HWr.out (by have := HL.out; rw [List.take_length] at this; exact this))
          have H2 := Lib.hid hO
          clear hO
          go_wp2
          go_roundw
          case rel => exact ⟨k + 1, by omega, by go_num, by rw [HAs.out, ← List.append_assoc]; exact H2.out, HO2, HC, hbel⟩
          case measure => simp [intOf]; omega
        obtain ⟨bv, ov, rfl, hbv, y0, y1⟩ := (Prs.step hbel HE.out).at_ l hlt2
        have HFv := Lib.hid (okFs_ix HV.out hlt2)
        have HOl := Lib.hid (HOs.out l hlt2 HL.out)
        have HNo := Lib.hid (HNs.out l hlt2)
        have HRl := Lib.hid (HRs.out l hlt2)
        have HRm := Lib.hid (HRn.out l)
        generalize vs[l].1 = vd at *
        generalize vs[l].2 = vt at *
        have p0 : wr.cell? ⟨w.heap.size, 0, none⟩ = some (.int .i64 C.dg) := by rw [HC.out.cell]; rfl
        have p1 : wr.cell? ⟨w.heap.size, 1, none⟩ = some (.int .i64 C.tn) := by rw [HC.out.cell]; rfl
        have p2 : wr.cell? ⟨w.heap.size, 2, none⟩ = some (.string C.nm) := by rw [HC.out.cell]; rfl
        have p3 : wr.cell? ⟨w.heap.size, 3, none⟩ = some (.slice A C.zs.length c) := by rw [HC.out.cell]; rfl
        have p4 : wr.cell? ⟨w.heap.size, 4, none⟩ = some (.int .i64 C.wd) := by rw [HC.out.cell]; rfl
        have p5 : wr.cell? ⟨w.heap.size, 5, none⟩ = some (.int .i64 C.lf) := by rw [HC.out.cell]; rfl
        have p6 : wr.cell? ⟨w.heap.size, 6, none⟩ = some (.int .i64 C.rt) := by rw [HC.out.cell]; rfl
        have u0 : wr.cell? ⟨wo.heap.size, 0, none⟩ = some (.int .i64 ud) := by rw [HB.out.cell]; rfl
        have u1 : wr.cell? ⟨wo.heap.size, 1, none⟩ = some (.int .i64 ut) := by rw [HB.out.cell]; rfl
        have clt := HC.out.lt
        have blt := HB.out.lt
        have HI1 := Lib.hid (Ints.step hbel HI.out)
        have HO := Lib.hid hO
        clear hO
        go_wp2_with fail
        go_at_call 124; refine (lineHeights_c _ _ _ _ _ _ _ hn hm H.out HFu.out HFv.out _ (by repeat (with_reducible first | exact HI1.out | assumption | refine Ints.drew ?_ | refine Ints.drewN _ ?_ | refine Ints.alloc _ ?_ | refine Ints.step (by assumption) ?_))).mono ?_; rintro r w5 ⟨rfl, hb5⟩
        have HC2 := Lib.hid (Blk.step hb5 (Blk.alloc (.cells #[.int .i64 vd, .int .i64 vt] 25) HC.out))
        have HB2 := Lib.hid (Blk.step hb5 (Blk.alloc (.cells #[.int .i64 vd, .int .i64 vt] 25) HB.out))
        have HO2 := Lib.hid (Own.step hb5 (Own.alloc (.cells #[.int .i64 vd, .int .i64 vt] 25) HO.out))
        have hbel5 : Below w.heap.size w w5 := by repeat (with_reducible first | exact Below.refl _ _ | assumption | refine Bel.alloc ?_ _ | refine Bel.step (by assumption) ?_ | refine Below.drew ?_ | refine Bel.drewN ?_ _ | refine Below.setCell ?_ (by first | exact Nat.le_refl _ | omega | (simp; done) | (simp; omega)) _)
        have s5 := hb5.size
        simp only [World.size_alloc] at s5
        clear hb5 p0 p1 p2 p3 p4 p5 p6 u0 u1 y0 y1 HC HB HO
        by_cases hc : lhC C ud ut vd vt = 0
        · have HO3 := Lib.hid (HOl.out hc)
          rw [hc]
          clear hc
          generalize lhL C ud ut vd vt = x at *
          generalize lhH C ud ut vd vt = y at *
          have HBy := Lib.hid (show Blk ((w5.alloc (.cells #[.int .i64 x, .int .i64 y] 92)).alloc (.cells #[.int .i64 x, .int .i64 y] 2)) (w5.heap.size + 1) 2 #[.int .i64 x, .int .i64 y] by have h := Blk.new (w5.alloc (.cells #[.int .i64 x, .int .i64 y] 92)) 2 #[.int .i64 x, .int .i64 y]; simp only [World.size_alloc] at h; exact h)
          go_wp2_with (at_builtin; refine wpList_appNL rfl _ _ 26 rfl (w.heap.size + 1) 2 Tryz.underlying26 info64 _ _ rfl (Own.alloc _ (Own.alloc _ HO2.out)) (w5.heap.size + 1) 2 2 #[.int .i64 x, .int .i64 y] 2 HBy.out (by rfl) [x, y] rfl rfl (by omega) (by rw [List.length_append]; have := HYK.out; have := HRm.out; omega) (by simp; omega) ?_; intro v6 w6 hO6 hg6 hq6)
          have H6 := Lib.hid (show Own w6 (w.heap.size + 1) 2 v6 (hY C us vs ++ hAl C us vs k ++ RR (l + 1)) by rw [HRl.out, ← List.append_assoc]; exact hO6)
          have HN6 := Lib.hid (show v6.ownBlock ≠ some wo.heap.size from fun e => by
            rcases hq6 _ e with e | e
            · exact HN.out e
            · simp only [World.size_alloc] at e; omega)
          have HC6 := Lib.hid (Blk.grown (Blk.alloc _ (Blk.alloc _ HC2.out)) hg6 (fun e => by have := (HO2.out.lt _ e.symm).1; omega))
          have HB6 := Lib.hid (Blk.grown (Blk.alloc _ (Blk.alloc _ HB2.out)) hg6 (fun e => HN.out e.symm))
          have hbel6 := Bel.grown (Bel.alloc (Bel.alloc hbel5 _) _) hg6 (fun k hk => by have := (HO2.out.lt _ hk).1; omega)
          clear hO6 hg6 hq6 HC2 HB2 HO2 hbel5 HBy hbel
          go_wp2
          go_roundw
          case rel => exact ⟨l + 1, by omega, by go_num, H6.out, HN6, HO3, HC6, HB6, hbel6⟩
          case measure => simp [intOf]; omega
        · have HT := Lib.hid (ht_w (HNo.out hc))
          have hq : lhC C ud ut vd vt = 3 := by unfold lhC at hc ⊢; split <;> simp_all
          rw [hq]
          go_wp2
          go_ret2
          exact ⟨by rw [HT.out.1, HT.out.2]; rfl, by repeat (with_reducible first | exact Below.refl _ _ | assumption | refine Bel.alloc ?_ _ | refine Bel.step (by assumption) ?_ | refine Below.drew ?_ | refine Bel.drewN ?_ _ | refine Below.setCell ?_ (by first | exact Nat.le_refl _ | omega | (simp; done) | (simp; omega)) _)⟩
end Go.Proofs.YtpmcgicopogbhaaGreat
