/- Draws: rows of figures. Conditions: as stated at each contract. -/
import Derived.Test.YtpmcgicopogbhaaGreatProg
import Derived.Test.YtpmcgicopogbhaaGreatBase
import Derived.Test.YtpmcgicopogbhaaGreatZz
import Derived.Test.YtpmcgicopogbhaaGreatRw
import Derived.Test.YtpmcgicopogbhaaGreatRg
import Derived.Test.YtpmcgicopogbhaaGreatL01
import Derived.Test.YtpmcgicopogbhaaGreatCp
import Derived.Test.YtpmcgicopogbhaaGreatCm
import Derived.Test.YtpmcgicopogbhaaGreatL18
import Derived.Test.YtpmcgicopogbhaaGreatD00
import Derived.Test.YtpmcgicopogbhaaGreatD01
import Derived.Test.YtpmcgicopogbhaaGreatD02
import Derived.Test.YtpmcgicopogbhaaGreatD18
import Derived.Test.YtpmcgicopogbhaaGreatD23
import Derived.Test.YtpmcgicopogbhaaGreatDp
import Derived.WalkKit
import Derived.WalkSpells
import Derived.WalkLawsBesides
import Derived.Lib.Hide
import Derived.Deep.QuietTactic
import Derived.BigQuiet
import Derived.Deep.Draws
import Derived.Deep.RegionHeld3
import Derived.Deep.Cut
import Derived.Deep.AppendLies
namespace Go.Proofs.YtpmcgicopogbhaaGreat
open Go.RowKit
set_option linter.unusedVariables false
set_option linter.unusedSimpArgs false
theorem OwnP.cell0 {w : World} {B b n c : Nat} {T : TypeId} {p : Int × Int} {ps : List (Int × Int)} (h : OwnP w B T (.slice (some ⟨b, 0, none⟩) n c) (p :: ps)) : w.cell? ⟨b, 0, none⟩ = some (.int .i64 p.1) := by
  obtain ⟨_, ⟨h1, _⟩ | ⟨g, cap, cur, e, hg, hh, hn, hm, hs, ht⟩⟩ := h
  · cases h1
  · injection e with e1 e2 e3
    injection e1 with e1
    injection e1 with e1
    subst e1
    have hB : Blk w b T cur := hh
    have h0 := congrArg (fun l => l[0]?) ht
    rw [hB.cell, ← Array.getElem?_toList]
    simpa [List.getElem?_take, pcells] using h0
/-- A store into the first element of an owned row of pairs. -/
theorem wpList_store_own0P {P : Program} {ops : Array Oper} {rest : List Oper} {op : Oper} {a : Act} {w : World} {Q : Exit → Act → World → Prop} (ty : TypeId) (x y : Operand) (d t : Int) (p : Int × Int) (ps : List (Int × Int)) {B b n c : Nat} {T : TypeId} (hO : OwnP w B T (.slice (some ⟨b, 0, none⟩) n c) (p :: ps))
    (hgd : op.guard = none) (ho : op.op = .store ty x y) (hx : a.eval x = .pointer (some ⟨b, 0, none⟩)) (hy : a.eval y = .agg #[.int .i64 d, .int .i64 t]) (hi : (P.info? ty).map (·.size) = some 2)
    (h : ∀ w', OwnP w' B T (.slice (some ⟨b, 0, none⟩) n c) ((d, t) :: ps) → Kp b w w' → wpList P ops Q rest (a.put op.dst undef) w') : wpList P ops Q (op :: rest) a w := by
  obtain ⟨hl, ⟨h1, _⟩ | ⟨g, cap, cur, e, hg, hh, hn, hm, hs, ht⟩⟩ := hO
  · cases h1
  injection e with e1 e2 e3
  injection e1 with e1
  injection e1 with e1
  subst e1 e2 e3
  have hB : Blk w b T cur := hh
  have hs2 : 2 ≤ cur.size := by rw [hs]; have := hn; simp at this; omega
  refine wpList_store_part ty x y b 0 (.agg #[.int .i64 d, .int .i64 t]) #[.int .i64 d, .int .i64 t] hB hgd ho hx hy rfl hi (by simp [Value.oneCell']) (by simp; omega) ?_
  intro w' hB' hk
  refine h w' ?_ hk
  simp only [setL] at hB'
  refine ⟨by simpa [pcells] using hl, .inr ⟨b, c, _, rfl, hg, hB', hn, hm, by simp [hs], ?_⟩⟩
  have ht' : cur.toList.take ((ps.length + 1) * 2) = .int .i64 p.1 :: .int .i64 p.2 :: pcells ps := by simpa [pcells] using ht
  simp [List.take_set, ht', pcells]
/-- A call that draws figures in memory of its own, or none. -/
def DrFs (X : Nat) (A : Option Addr) (zs : List Int) (w : World) (e : Ending) (w' : World) : Prop := ∃ (ps : List (Int × Int)) (G : Option Addr) (c : Nat), e = .returned (.slice G ps.length c) ∧ ps.length ≤ 13 ∧ OwnP w' w.heap.size 25 (.slice G ps.length c) ps ∧ Dr X A zs w w'
set_option maxRecDepth 20000 in
set_option maxHeartbeats 4000000 in
theorem l26DrawSamples_c (X : Nat) (A : Option Addr) (zs : List Int) (w : World) (hS : Src w X A zs) :
    Calls Tryz.prog 122 #[.pointer (some ⟨X, 0, none⟩)] w (DrFs X A zs w) := by
  have hlX := hS.lt
  have HS := Lib.hid (Src.alloc (.cells #[] 25) hS)
  have HK := Lib.hid (Kp.alloc (.cells #[] 25) (Kp.refl X w))
  have HP : Hid (OwnP (w.alloc (.cells #[] 25)) w.heap.size 25 (.slice (some ⟨w.heap.size, 0, none⟩) 0 0) []) := OwnP.new w w.heap.size 25 (Nat.le_refl _)
  clear hS
  go_enter Tryz.func122, Tryz.ntmps122
  go_wp2_with fail
  go_at_call 46; refine (l01Next_c X A zs _ (by omega) _ (zsr HS)).mono ?_; rintro e w1 ⟨x1, rfl, hx1, hy1, hd1⟩; (try rw [Int.max_eq_left (by omega)] at hy1); have hkb := hd1.kp; have hka := zka HK hkb; have hlS1 := HS.out.lt; (try replace HP := zp hka hkb HP); replace HK := zt HK hka hkb; have hsz1 := hkb.size_; have hsy1 := hka.size_; (try simp only [World.size_alloc, World.size_drew, World.heap_drewN, World.size_setCell] at hsz1 hsy1); replace HS := Lib.hid hd1.src; clear hka hkb hd1 hlS1; have hlS1 := HS.out.lt
  obtain ⟨k0, rfl⟩ : ∃ k : Nat, x1 = k := ⟨x1.toNat, by omega⟩
  have hk0 : k0 < 4 := by omega
  go_wp2
  go_loopw [3, 4] (fun l n wr => ∃ (k : Nat) (ps : List (Int × Int)) (gb cb : Nat), ps.length + k ≤ 4 ∧ 1 ≤ ps.length + k ∧ n = .int .i64 k ∧ l = .slice (some ⟨gb, 0, none⟩) ps.length cb ∧ w.heap.size ≤ gb ∧ Hid (Src wr X A zs) ∧ Hid (Kp X w wr) ∧ Hid (OwnP wr w.heap.size 25 (.slice (some ⟨gb, 0, none⟩) ps.length cb) ps)) (fun _ n _ => (intOf n).toNat)
  case atStart => exact ⟨k0 + 1, [], w.heap.size, 0, by simp; omega, by simp, by first | go_num | (congr 1; omega), rfl, Nat.le_refl _, HS, HK, HP⟩
  case round =>
    clear HS HK HP
    obtain ⟨k, ps, gb, cb, hk, hk2, rfl, rfl, hgb0, HS, HK, HP⟩ := hrel
    have hlS := HS.out.lt
    have hlP := (World.ownsRow.lt HP.out gb rfl).2
    by_cases hk1 : 0 < k
    · have hk1' : (0 : Int) < k := by omega
      go_wp2_with fail
      go_at_call 96; refine (l02Valid_c X A zs _ (zsr HS)).mono ?_; rintro e w2 ⟨d2, t2, rfl, ho2, hd2⟩; have HO2 := Lib.hid ho2; clear ho2; have hkb := hd2.kp; have hka := zka HK hkb; have hlS2 := HS.out.lt; (try replace HP := zp hka hkb HP); replace HK := zt HK hka hkb; have hsz2 := hkb.size_; have hsy2 := hka.size_; (try simp only [World.size_alloc, World.size_drew, World.heap_drewN, World.size_setCell] at hsz2 hsy2); replace HS := Lib.hid hd2.src; clear hka hkb hd2 hlS2; have hlS2 := HS.out.lt
      have hlP2 := (World.ownsRow.lt HP.out gb rfl).2
      go_wp2_with (first | (at_builtin; refine wpList_app1PX rfl _ _ 54 rfl w.heap.size 25 (.agg #[.int .i64 0, .int .i64 0]) Tryz.underlying54 (by kernel_rfl) rfl _ ps (d2, t2) rfl (OwnP.alloc _ HP.out) w2.heap.size rfl (by simp [go_sem]) (by simp [go_sem]) (by omega) (by simp; omega) ?_; intro gb' cb' w9 hP9 hk9 hg9; have hkb : Kp gb _ w9 := hk9; have hka := Kp.ka HK.out hkb (Kp.alloc _ (Kp.refl _ _)); replace HS := Lib.hid (Src.kpg2 HS.out (Bel.alloc (Below.refl _ _) _) hkb (by omega)); replace HK := Lib.hid (Kp.own hkb (by omega) (Kp.trans HK.out hka)); have hgb := (World.ownsRow.lt hP9 gb' rfl); have hs9 := hkb.size_; simp only [World.size_alloc] at hs9; clear hka hkb hk9 HP; have HP := Lib.hid hP9; clear hP9))
      go_roundw
      case rel => exact ⟨k - 1, ps ++ [(d2, t2)], gb', cb', by simp; omega, by simp; omega, by first | go_num | (congr 1; omega), by simp, by omega, HS, HK, Lib.hid (by rw [List.length_append]; exact HP.out)⟩
      case measure => simp [intOf]; omega
    obtain rfl : k = 0 := by omega
    have hps : 0 < ps.length := by omega
    go_wp2_with fail
    go_at_call 46; refine (l01Next_c X A zs _ (by omega) _ (zsr HS)).mono ?_; rintro e w3 ⟨x3, rfl, hx3, hy3, hd3⟩; (try rw [Int.max_eq_left (by omega)] at hy3); have hkb := hd3.kp; have hka := zka HK hkb; have hlS3 := HS.out.lt; (try replace HP := zp hka hkb HP); replace HK := zt HK hka hkb; have hsz3 := hkb.size_; have hsy3 := hka.size_; (try simp only [World.size_alloc, World.size_drew, World.heap_drewN, World.size_setCell] at hsz3 hsy3); replace HS := Lib.hid hd3.src; clear hka hkb hd3 hlS3; have hlS3 := HS.out.lt
    by_cases q0 : x3 = 0
    · go_wp2
      go_ret
      exact ⟨[], none, 0, rfl, by simp, OwnP.nil _ _ _, HS.out, HK.out⟩
    by_cases q1 : x3 = 1
    · go_wp2
      go_loopw [3] (fun l wr => ∃ (ps : List (Int × Int)) (gb cb : Nat), ps.length ≤ 13 ∧ l = .slice (some ⟨gb, 0, none⟩) ps.length cb ∧ w.heap.size ≤ gb ∧ Hid (Src wr X A zs) ∧ Hid (Kp X w wr) ∧ Hid (OwnP wr w.heap.size 25 (.slice (some ⟨gb, 0, none⟩) ps.length cb) ps)) (fun l _ => 13 - lenOf l)
      case atStart => exact ⟨ps, gb, cb, by omega, rfl, hgb0, HS, HK, HP⟩
      case round =>
        clear HS HK HP hlS hlP
        obtain ⟨qs, gq, cq, hq13, rfl, hgq0, HS, HK, HP⟩ := hrel
        have hlS := HS.out.lt
        have hlP := (World.ownsRow.lt HP.out gq rfl).2
        go_wp2_with fail
        go_at_call 46; refine (l01Next_c X A zs _ (by omega) _ (zsr HS)).mono ?_; rintro e w4 ⟨x4, rfl, hx4, hy4, hd4⟩; (try rw [Int.max_eq_left (by omega)] at hy4); have hkb := hd4.kp; have hka := zka HK hkb; have hlS4 := HS.out.lt; (try replace HP := zp hka hkb HP); replace HK := zt HK hka hkb; have hsz4 := hkb.size_; have hsy4 := hka.size_; (try simp only [World.size_alloc, World.size_drew, World.heap_drewN, World.size_setCell] at hsz4 hsy4); replace HS := Lib.hid hd4.src; clear hka hkb hd4 hlS4; have hlS4 := HS.out.lt
        by_cases hc : (qs.length : Int) < 12 + x4
        · go_wp2_with fail
          go_at_call 96; refine (l02Valid_c X A zs _ (zsr HS)).mono ?_; rintro e w5 ⟨d5, t5, rfl, ho5, hd5⟩; have HO5 := Lib.hid ho5; clear ho5; have hkb := hd5.kp; have hka := zka HK hkb; have hlS5 := HS.out.lt; (try replace HP := zp hka hkb HP); replace HK := zt HK hka hkb; have hsz5 := hkb.size_; have hsy5 := hka.size_; (try simp only [World.size_alloc, World.size_drew, World.heap_drewN, World.size_setCell] at hsz5 hsy5); replace HS := Lib.hid hd5.src; clear hka hkb hd5 hlS5; have hlS5 := HS.out.lt
          have hlP5 := (World.ownsRow.lt HP.out gq rfl).2
          go_wp2_with (first | (at_builtin; refine wpList_app1PX rfl _ _ 54 rfl w.heap.size 25 (.agg #[.int .i64 0, .int .i64 0]) Tryz.underlying54 (by kernel_rfl) rfl _ qs (d5, t5) rfl (OwnP.alloc _ HP.out) w5.heap.size rfl (by simp [go_sem]) (by simp [go_sem]) (by omega) (by simp; omega) ?_; intro gb' cb' w9 hP9 hk9 hg9; have hkb : Kp gq _ w9 := hk9; have hka := Kp.ka HK.out hkb (Kp.alloc _ (Kp.refl _ _)); replace HS := Lib.hid (Src.kpg2 HS.out (Bel.alloc (Below.refl _ _) _) hkb (by omega)); replace HK := Lib.hid (Kp.own hkb (by omega) (Kp.trans HK.out hka)); have hgb := (World.ownsRow.lt hP9 gb' rfl); have hs9 := hkb.size_; simp only [World.size_alloc] at hs9; clear hka hkb hk9 HP; have HP := Lib.hid hP9; clear hP9))
          go_roundw
          case rel => exact ⟨qs ++ [(d5, t5)], gb', cb', by simp; omega, by simp, by omega, HS, HK, Lib.hid (by rw [List.length_append]; exact HP.out)⟩
          case measure => simp [lenOf]; omega
        go_wp2
        go_ret
        exact ⟨qs, some ⟨gq, 0, none⟩, cq, rfl, hq13, HP.out, HS.out, HK.out⟩
    by_cases q2 : x3 = 2
    · go_wp2_with fail
      go_at_call 89; refine (l02Draw_c X A zs _ (zsr HS)).mono ?_; rintro e w4 ⟨d4, t4, rfl, ho4, hd4⟩; clear ho4; have hkb := hd4.kp; have hka := zka HK hkb; have hlS4 := HS.out.lt; (try replace HP := zp hka hkb HP); replace HK := zt HK hka hkb; have hsz4 := hkb.size_; have hsy4 := hka.size_; (try simp only [World.size_alloc, World.size_drew, World.heap_drewN, World.size_setCell] at hsz4 hsy4); replace HS := Lib.hid hd4.src; clear hka hkb hd4 hlS4; have hlS4 := HS.out.lt
      obtain ⟨p0, pr, rfl⟩ : ∃ p0 pr, ps = p0 :: pr := by
        cases ps with
        | nil => simp at hps
        | cons a b => exact ⟨a, b, rfl⟩
      have hpos : (0 : Int) < (pr.length : Int) + 1 := by omega
      go_wp2_with (first | (refine wpList_store_own0P 25 _ _ d4 t4 p0 pr HP.out rfl rfl rfl rfl (by kernel_rfl) ?_; intro wS hOS hkb; replace HP := Lib.hid hOS; replace HS := Lib.hid (Src.kpg hkb (by omega) HS.out); replace HK := Lib.hid (Kp.own hkb (by omega) HK.out); clear hkb hOS))
      go_ret
      exact ⟨(d4, t4) :: pr, some ⟨gb, 0, none⟩, cb, rfl, by simp at hk ⊢; omega, HP.out, HS.out, HK.out⟩
    go_wp2
    go_ret
    exact ⟨ps, some ⟨gb, 0, none⟩, cb, rfl, by omega, HP.out, HS.out, HK.out⟩
/-- A chart, two rows of figures and an eye are drawn. -/
def LyQ (w : World) (e : Ending) (w' : World) : Prop := ∃ (C : Ch) (g c : Nat) (us vs : List (Int × Int)) (G H : Option Addr) (cu cv : Nat) (ey : Int), e = .returned (.tuple #[.agg #[.int .i64 C.dg, .int .i64 C.tn, .string C.nm, .slice (some ⟨g, 0, none⟩) C.zs.length c, .int .i64 C.wd, .int .i64 C.lf, .int .i64 C.rt], .slice G us.length cu, .slice H vs.length cv, .int .i64 ey]) ∧ C.zs.length ≤ 27 ∧ C.nm.size ≤ 27 ∧ us.length ≤ 13 ∧ vs.length ≤ 13 ∧ Own w' w.heap.size 2 (.slice (some ⟨g, 0, none⟩) C.zs.length c) C.zs ∧ OwnP w' w.heap.size 25 (.slice G us.length cu) us ∧ OwnP w' w.heap.size 25 (.slice H vs.length cv) vs ∧ Below w.heap.size w w'
set_option maxRecDepth 20000 in
set_option maxHeartbeats 8000000 in
theorem l26Draw_c (A : Option Addr) (c : Nat) (zs : List Int) (hz : zs.length ≤ 4096) (w : World) (hA : Byts w A zs) :
    Calls Tryz.prog 78 #[.slice A zs.length c] w (LyQ w) := by
  have HA := Lib.hid hA
  have HR1 := Lib.hid (Blk.new w 30 #[.int .i64 0, .int .i64 0, .string ⟨#[]⟩, .slice none 0 0, .int .i64 0, .int .i64 0, .int .i64 0])
  clear hA
  go_enter Tryz.func78, Tryz.ntmps78
  go_wp2_with fail
  go_at_call 44; refine (l01From_c A c zs hz _ (Byts.step (by repeat (with_reducible first | exact Below.refl _ _ | refine Bel.alloc ?_ _)) HA.out)).mono ?_; rintro e w1 ⟨X, rfl, hX, hS, hb1⟩; replace HR1 := Lib.hid (Blk.step hb1 HR1.out); have HS := Lib.hid hS; have HK := Lib.hid (Kp.below (X := X) (a := w) hb1 (by repeat (with_reducible first | exact Kp.refl _ _ | refine Kp.alloc _ ?_ | refine Kp.drew ?_ | refine Kp.drewN _ ?_))); have hlX := hS.lt; have hsz1 := hb1.size; (try simp only [World.size_alloc] at hX hsz1); clear hS hb1
  go_wp2_with fail
  go_at_call 51; refine (l23Draw_c X A zs _ (zsr HS)).mono ?_; rintro e w2 ⟨C2, g2, c2, rfl, ho2, hn2, hm2, hO2, hd2⟩; obtain ⟨hq2, hr2⟩ := World.ownsRow.lt hO2 g2 rfl; (try simp only [World.size_alloc] at hq2); have HO2 := Lib.hid hO2; clear hO2 ho2; have hkb := hd2.kp; have hka := zka HK hkb; have hlS2 := HS.out.lt; (try replace HR1 := zb hka hkb HR1); replace HK := zt HK hka hkb; have hsz2 := hkb.size_; have hsy2 := hka.size_; (try simp only [World.size_alloc, World.size_drew, World.heap_drewN, World.size_setCell] at hsz2 hsy2); replace HS := Lib.hid hd2.src; clear hka hkb hd2 hlS2; have hlS2 := HS.out.lt
  have HF := Lib.hid (Blk.new w2 30 #[.int .i64 C2.dg, .int .i64 C2.tn, .string C2.nm, .slice (some ⟨g2, 0, none⟩) C2.zs.length c2, .int .i64 C2.wd, .int .i64 C2.lf, .int .i64 C2.rt])
  replace HR1 := Lib.hid (Blk.alloc (.cells #[.int .i64 C2.dg, .int .i64 C2.tn, .string C2.nm, .slice (some ⟨g2, 0, none⟩) C2.zs.length c2, .int .i64 C2.wd, .int .i64 C2.lf, .int .i64 C2.rt] 30) HR1.out)
  replace HO2 := Lib.hid (Own.alloc (.cells #[.int .i64 C2.dg, .int .i64 C2.tn, .string C2.nm, .slice (some ⟨g2, 0, none⟩) C2.zs.length c2, .int .i64 C2.wd, .int .i64 C2.lf, .int .i64 C2.rt] 30) HO2.out)
  replace HS := Lib.hid (Src.alloc (.cells #[.int .i64 C2.dg, .int .i64 C2.tn, .string C2.nm, .slice (some ⟨g2, 0, none⟩) C2.zs.length c2, .int .i64 C2.wd, .int .i64 C2.lf, .int .i64 C2.rt] 30) HS.out)
  replace HK := Lib.hid (Kp.alloc (.cells #[.int .i64 C2.dg, .int .i64 C2.tn, .string C2.nm, .slice (some ⟨g2, 0, none⟩) C2.zs.length c2, .int .i64 C2.wd, .int .i64 C2.lf, .int .i64 C2.rt] 30) HK.out)
  have hlF := HF.out.lt
  go_wp2_with fail
  go_at_call 122; refine (l26DrawSamples_c X A zs _ (zsr HS)).mono ?_; rintro e w3 ⟨ps3, G3, c3, rfl, hn3, hP3, hd3⟩; have HP3 := Lib.hid hP3; clear hP3; have hkb := hd3.kp; have hka := zka HK hkb; have hlS3 := HS.out.lt; (try replace HR1 := zb hka hkb HR1); (try replace HF := zb hka hkb HF); (try replace HO2 := zo hka hkb HO2); replace HK := zt HK hka hkb; have hsz3 := hkb.size_; have hsy3 := hka.size_; (try simp only [World.size_alloc, World.size_drew, World.heap_drewN, World.size_setCell] at hsz3 hsy3); replace HS := Lib.hid hd3.src; clear hka hkb hd3 hlS3; have hlS3 := HS.out.lt
  have hlF3 := HF.out.lt
  have hq3 : ∀ g', G3 = some ⟨g', 0, none⟩ → g' < w3.heap.size := fun g' hg => (World.ownsRow.lt HP3.out g' (by rw [hg]; rfl)).2
  go_wp2_with fail
  go_at_call 122; refine (l26DrawSamples_c X A zs _ (zsr HS)).mono ?_; rintro e w4 ⟨ps4, G4, c4, rfl, hn4, hP4, hd4⟩; have HP4 := Lib.hid hP4; clear hP4; have hkb := hd4.kp; have hka := zka HK hkb; have hlS4 := HS.out.lt; (try replace HR1 := zb hka hkb HR1); (try replace HF := zb hka hkb HF); (try replace HO2 := zo hka hkb HO2); (try replace HP3 := zP hka hkb HP3); replace HK := zt HK hka hkb; have hsz4 := hkb.size_; have hsy4 := hka.size_; (try simp only [World.size_alloc, World.size_drew, World.heap_drewN, World.size_setCell] at hsz4 hsy4); replace HS := Lib.hid hd4.src; clear hka hkb hd4 hlS4; have hlS4 := HS.out.lt
  have hlF4 := HF.out.lt
  by_cases hu : 0 < ps3.length
  rotate_left
  · have hu0 : ¬ (0 : Int) < (ps3.length : Int) := by omega
    have hlZ := HF.out.lt
    go_upto_region 7 with (fail)
    refine wp_region_held_drew (S := fun W => Blk W w2.heap.size 30 #[.int .i64 C2.dg, .int .i64 C2.tn, .string C2.nm, .slice (some ⟨g2, 0, none⟩) C2.zs.length c2, .int .i64 C2.wd, .int .i64 C2.lf, .int .i64 C2.rt] ∧ True) (by kernel_rfl) (⟨HF.out.drew, trivial⟩) (fun hHeld => ?_)
    replace HR1 := Lib.hid HR1.out.drew
    replace HF := Lib.hid HF.out.drew
    replace HO2 := Lib.hid HO2.out.drew
    replace HP3 := Lib.hid HP3.out.drew
    replace HP4 := Lib.hid HP4.out.drew
    replace HS := Lib.hid HS.out.drew
    replace HK := Lib.hid HK.out.drew
    have hsd : w4.drew.heap.size = w4.heap.size := rfl
    rw [← hsd] at hlZ
    clear hsd
    generalize w4.drew = v7 at HR1 HF HO2 HP3 HP4 HS HK hHeld hlZ ⊢
    refine wpAnyH_take (i := 0) (v := .agg #[.int .i64 C2.dg, .int .i64 C2.tn, .string C2.nm, .slice (some ⟨g2, 0, none⟩) C2.zs.length c2, .int .i64 C2.wd, .int .i64 C2.lf, .int .i64 C2.rt]) rfl (by kernel_rfl) (by kernel_rfl) (by kernel_rfl) (fun _ _ _ h => h) (yieldsIf_load_blk 30 _ (w2.heap.size) (fun _ h => h.1) Tryz.underlying30 (by kernel_rfl) (by rfl) rfl rfl) hHeld ?_
    simp only [Act.put, List.getElem_toArray, List.getElem_cons_succ, List.getElem_cons_zero, List.setIfInBounds_toArray, List.set_cons_zero, List.set_cons_succ]
    refine wpAnyH_take (i := 1) (v := (.slice G3 (ps3).length c3)) rfl (by kernel_rfl) (by kernel_rfl) (by kernel_rfl) (fun _ _ _ h => h) (Or.inl ⟨by rfl, fun w _ => by simp [go_sem, execOp]⟩) hHeld ?_
    simp only [Act.put, List.getElem_toArray, List.getElem_cons_succ, List.getElem_cons_zero, List.setIfInBounds_toArray, List.set_cons_zero, List.set_cons_succ]
    refine wpAnyH_take (i := 2) (v := (.slice G4 ps4.length c4)) rfl (by kernel_rfl) (by kernel_rfl) (by kernel_rfl) (fun _ _ _ h => h) (Or.inl ⟨by rfl, fun w _ => by simp [go_sem, execOp]⟩) hHeld ?_
    simp only [Act.put, List.getElem_toArray, List.getElem_cons_succ, List.getElem_cons_zero, List.setIfInBounds_toArray, List.set_cons_zero, List.set_cons_succ]
    refine wpAnyH_take (i := 3) (v := (.pointer (some ⟨X, 0, none⟩))) rfl (by kernel_rfl) (by kernel_rfl) (by kernel_rfl) (fun _ _ _ h => h) (Or.inl ⟨by rfl, fun w _ => by simp [go_sem, execOp]⟩) hHeld ?_
    simp only [Act.put, List.getElem_toArray, List.getElem_cons_succ, List.getElem_cons_zero, List.setIfInBounds_toArray, List.set_cons_zero, List.set_cons_succ]
    refine wpAnyH_ready (rs := [4]) (by kernel_rfl) (by simp) ?_
    refine AllReadyH.cons rfl (fun K hK => ?_) AllReadyH.nil
    go_simp
    go_at_call 52; refine (l06DrawEye_c X A zs _ (zsr HS)).mono ?_; rintro e w7 ⟨x7, rfl, hd7⟩; have hkb := hd7.kp; have hka := zka HK hkb; have hlS7 := HS.out.lt; (try replace HR1 := zb hka hkb HR1); (try replace HF := zb hka hkb HF); (try replace HO2 := zo hka hkb HO2); (try replace HP3 := zP hka hkb HP3); (try replace HP4 := zP hka hkb HP4); replace HK := zt HK hka hkb; have hsz7 := hkb.size_; have hsy7 := hka.size_; (try simp only [World.size_alloc, World.size_drew, World.heap_drewN, World.size_setCell] at hsz7 hsy7); replace HS := Lib.hid hd7.src; clear hka hkb hd7 hlS7; have hlS7 := HS.out.lt
    go_wp2_with fail
    refine hK.out _ _ (⟨HF.out, trivial⟩) (fun hHeld => ?_)
    clear hK K
    try simp only [Act.put, List.setIfInBounds_toArray, List.set_cons_zero, List.set_cons_succ]
    refine wpAnyH_ready (rs := [5]) (by kernel_rfl) (by simp) ?_
    refine AllReadyH.cons rfl (fun K hK => ?_) AllReadyH.nil
    refine step_store_part 30 _ _ _ 0 (.agg #[.int .i64 C2.dg, .int .i64 C2.tn, .string C2.nm, .slice (some ⟨g2, 0, none⟩) C2.zs.length c2, .int .i64 C2.wd, .int .i64 C2.lf, .int .i64 C2.rt]) #[.int .i64 C2.dg, .int .i64 C2.tn, .string C2.nm, .slice (some ⟨g2, 0, none⟩) C2.zs.length c2, .int .i64 C2.wd, .int .i64 C2.lf, .int .i64 C2.rt] (Blk.kp (zk0 HK) (by first | omega | (simp; omega)) HR1.out) rfl rfl rfl rfl rfl (by rfl) (by kernel_rfl) (by simp [Value.oneCell']) (by simp) ?_; intro wS hBS hkb; simp only [setL, List.setIfInBounds_toArray, List.set_cons_zero, List.set_cons_succ] at hBS; have hka := zka HK hkb; have hlSo := HS.out.lt; (try replace HF := zb hka hkb HF); (try replace HO2 := zo hka hkb HO2); (try replace HP3 := zP hka hkb HP3); (try replace HP4 := zP hka hkb HP4); (try replace HS := Lib.hid (Src.kpg2 HS.out (by repeat (with_reducible first | exact Below.refl _ _ | refine Bel.alloc ?_ _ | refine Below.drew ?_ | refine Bel.drewN ?_ _)) hkb (by first | omega | (simp; omega)))); replace HR1 := Lib.hid hBS; replace HK := Lib.hid (Kp.own hkb (by first | omega | (simp; omega)) (Kp.trans HK.out hka)); have hszS := hkb.size_; have hsyS := hka.size_; (try simp only [World.size_alloc, World.size_drew, World.heap_drewN, World.size_setCell] at hszS hsyS); clear hBS hka hkb hlSo; have hlSS := HS.out.lt
    refine hK.out _ _ (⟨HF.out, trivial⟩) (fun hHeld => ?_)
    clear hK K
    try simp only [Act.put, List.setIfInBounds_toArray, List.set_cons_zero, List.set_cons_succ]
    refine wpAnyH_take (i := 6) (v := (.slice G3 (ps3).length c3)) rfl (by kernel_rfl) (by kernel_rfl) (by kernel_rfl) (fun _ _ _ h => h) (Or.inl ⟨by rfl, fun w _ => by simp [go_sem, execOp]⟩) hHeld ?_
    simp only [Act.put, List.getElem_toArray, List.getElem_cons_succ, List.getElem_cons_zero, List.setIfInBounds_toArray, List.set_cons_zero, List.set_cons_succ]
    refine wpAnyH_take (i := 7) (v := (.slice G4 ps4.length c4)) rfl (by kernel_rfl) (by kernel_rfl) (by kernel_rfl) (fun _ _ _ h => h) (Or.inl ⟨by rfl, fun w _ => by simp [go_sem, execOp]⟩) hHeld ?_
    simp only [Act.put, List.getElem_toArray, List.getElem_cons_succ, List.getElem_cons_zero, List.setIfInBounds_toArray, List.set_cons_zero, List.set_cons_succ]
    refine wpAnyH_take (i := 8) (v := (.int .i64 x7)) rfl (by kernel_rfl) (by kernel_rfl) (by kernel_rfl) (fun _ _ _ h => h) (Or.inl ⟨by rfl, fun w _ => by simp [go_sem, execOp]⟩) hHeld ?_
    simp only [Act.put, List.getElem_toArray, List.getElem_cons_succ, List.getElem_cons_zero, List.setIfInBounds_toArray, List.set_cons_zero, List.set_cons_succ]
    refine wpAnyH_done (by kernel_rfl) ?_ _
    go_wp2
    exact bodyPost_ret (results_4 rfl (resF_cell HR1.out Tryz.underlying30 (by kernel_rfl) rfl) (resF_tmp _ rfl) (resF_tmp _ rfl) (resF_tmp _ rfl)) rfl ⟨C2, g2, c2, ps3, ps4, G3, G4, c3, c4, x7, rfl, by omega, by omega, hn3, hn4, Own.ge_mono HO2.out (by omega), OwnP.ge_mono HP3.out (by omega), OwnP.ge_mono HP4.out (by omega), Kp.toBel HK.out (by omega)⟩
  obtain ⟨p0, pr, rfl⟩ : ∃ p0 pr, ps3 = p0 :: pr := by
    cases ps3 with
    | nil => simp at hu
    | cons a b => exact ⟨a, b, rfl⟩
  obtain ⟨gb, rfl⟩ : ∃ gb, G3 = some ⟨gb, 0, none⟩ := by
    obtain ⟨A', c', e, _, _, _, hF⟩ := HP3.out.form
    obtain ⟨g', _, e', _⟩ := hF (by simp)
    injection e with e1
    exact ⟨g', e1.trans e'⟩
  have hgb := World.ownsRow.lt HP3.out gb rfl
  simp only [World.size_alloc] at hgb
  have hgb3 := hq3 gb rfl
  have hpos : (0 : Int) < (pr.length : Int) + 1 := by omega
  go_wp2_with fail
  go_at_call 46; refine (l01Next_c X A zs _ (by omega) _ (zsr HS)).mono ?_; rintro e w5 ⟨x5, rfl, hx5, hy5, hd5⟩; (try rw [Int.max_eq_left (by omega)] at hy5); have hkb := hd5.kp; have hka := zka HK hkb; have hlS5 := HS.out.lt; (try replace HR1 := zb hka hkb HR1); (try replace HF := zb hka hkb HF); (try replace HO2 := zo hka hkb HO2); (try replace HP3 := zP hka hkb HP3); (try replace HP4 := zP hka hkb HP4); replace HK := zt HK hka hkb; have hsz5 := hkb.size_; have hsy5 := hka.size_; (try simp only [World.size_alloc, World.size_drew, World.heap_drewN, World.size_setCell] at hsz5 hsy5); replace HS := Lib.hid hd5.src; clear hka hkb hd5 hlS5; have hlS5 := HS.out.lt
  have hlF5 := HF.out.lt
  by_cases q5 : x5 = 0
  rotate_left
  · skip
    have hlZ := HF.out.lt
    go_upto_region 7 with (fail)
    refine wp_region_held_drew (S := fun W => Blk W w2.heap.size 30 #[.int .i64 C2.dg, .int .i64 C2.tn, .string C2.nm, .slice (some ⟨g2, 0, none⟩) C2.zs.length c2, .int .i64 C2.wd, .int .i64 C2.lf, .int .i64 C2.rt] ∧ True) (by kernel_rfl) (⟨HF.out.drew, trivial⟩) (fun hHeld => ?_)
    replace HR1 := Lib.hid HR1.out.drew
    replace HF := Lib.hid HF.out.drew
    replace HO2 := Lib.hid HO2.out.drew
    replace HP3 := Lib.hid HP3.out.drew
    replace HP4 := Lib.hid HP4.out.drew
    replace HS := Lib.hid HS.out.drew
    replace HK := Lib.hid HK.out.drew
    have hsd : w5.drew.heap.size = w5.heap.size := rfl
    rw [← hsd] at hlZ
    clear hsd
    generalize w5.drew = v7 at HR1 HF HO2 HP3 HP4 HS HK hHeld hlZ ⊢
    refine wpAnyH_take (i := 0) (v := .agg #[.int .i64 C2.dg, .int .i64 C2.tn, .string C2.nm, .slice (some ⟨g2, 0, none⟩) C2.zs.length c2, .int .i64 C2.wd, .int .i64 C2.lf, .int .i64 C2.rt]) rfl (by kernel_rfl) (by kernel_rfl) (by kernel_rfl) (fun _ _ _ h => h) (yieldsIf_load_blk 30 _ (w2.heap.size) (fun _ h => h.1) Tryz.underlying30 (by kernel_rfl) (by rfl) rfl rfl) hHeld ?_
    simp only [Act.put, List.getElem_toArray, List.getElem_cons_succ, List.getElem_cons_zero, List.setIfInBounds_toArray, List.set_cons_zero, List.set_cons_succ]
    refine wpAnyH_take (i := 1) (v := (.slice (some ⟨gb, 0, none⟩) ((p0 :: pr)).length c3)) rfl (by kernel_rfl) (by kernel_rfl) (by kernel_rfl) (fun _ _ _ h => h) (Or.inl ⟨by rfl, fun w _ => by simp [go_sem, execOp]⟩) hHeld ?_
    simp only [Act.put, List.getElem_toArray, List.getElem_cons_succ, List.getElem_cons_zero, List.setIfInBounds_toArray, List.set_cons_zero, List.set_cons_succ]
    refine wpAnyH_take (i := 2) (v := (.slice G4 ps4.length c4)) rfl (by kernel_rfl) (by kernel_rfl) (by kernel_rfl) (fun _ _ _ h => h) (Or.inl ⟨by rfl, fun w _ => by simp [go_sem, execOp]⟩) hHeld ?_
    simp only [Act.put, List.getElem_toArray, List.getElem_cons_succ, List.getElem_cons_zero, List.setIfInBounds_toArray, List.set_cons_zero, List.set_cons_succ]
    refine wpAnyH_take (i := 3) (v := (.pointer (some ⟨X, 0, none⟩))) rfl (by kernel_rfl) (by kernel_rfl) (by kernel_rfl) (fun _ _ _ h => h) (Or.inl ⟨by rfl, fun w _ => by simp [go_sem, execOp]⟩) hHeld ?_
    simp only [Act.put, List.getElem_toArray, List.getElem_cons_succ, List.getElem_cons_zero, List.setIfInBounds_toArray, List.set_cons_zero, List.set_cons_succ]
    refine wpAnyH_ready (rs := [4]) (by kernel_rfl) (by simp) ?_
    refine AllReadyH.cons rfl (fun K hK => ?_) AllReadyH.nil
    go_simp
    go_at_call 52; refine (l06DrawEye_c X A zs _ (zsr HS)).mono ?_; rintro e w7 ⟨x7, rfl, hd7⟩; have hkb := hd7.kp; have hka := zka HK hkb; have hlS7 := HS.out.lt; (try replace HR1 := zb hka hkb HR1); (try replace HF := zb hka hkb HF); (try replace HO2 := zo hka hkb HO2); (try replace HP3 := zP hka hkb HP3); (try replace HP4 := zP hka hkb HP4); replace HK := zt HK hka hkb; have hsz7 := hkb.size_; have hsy7 := hka.size_; (try simp only [World.size_alloc, World.size_drew, World.heap_drewN, World.size_setCell] at hsz7 hsy7); replace HS := Lib.hid hd7.src; clear hka hkb hd7 hlS7; have hlS7 := HS.out.lt
    go_wp2_with fail
    refine hK.out _ _ (⟨HF.out, trivial⟩) (fun hHeld => ?_)
    clear hK K
    try simp only [Act.put, List.setIfInBounds_toArray, List.set_cons_zero, List.set_cons_succ]
    refine wpAnyH_ready (rs := [5]) (by kernel_rfl) (by simp) ?_
    refine AllReadyH.cons rfl (fun K hK => ?_) AllReadyH.nil
    refine step_store_part 30 _ _ _ 0 (.agg #[.int .i64 C2.dg, .int .i64 C2.tn, .string C2.nm, .slice (some ⟨g2, 0, none⟩) C2.zs.length c2, .int .i64 C2.wd, .int .i64 C2.lf, .int .i64 C2.rt]) #[.int .i64 C2.dg, .int .i64 C2.tn, .string C2.nm, .slice (some ⟨g2, 0, none⟩) C2.zs.length c2, .int .i64 C2.wd, .int .i64 C2.lf, .int .i64 C2.rt] (Blk.kp (zk0 HK) (by first | omega | (simp; omega)) HR1.out) rfl rfl rfl rfl rfl (by rfl) (by kernel_rfl) (by simp [Value.oneCell']) (by simp) ?_; intro wS hBS hkb; simp only [setL, List.setIfInBounds_toArray, List.set_cons_zero, List.set_cons_succ] at hBS; have hka := zka HK hkb; have hlSo := HS.out.lt; (try replace HF := zb hka hkb HF); (try replace HO2 := zo hka hkb HO2); (try replace HP3 := zP hka hkb HP3); (try replace HP4 := zP hka hkb HP4); (try replace HS := Lib.hid (Src.kpg2 HS.out (by repeat (with_reducible first | exact Below.refl _ _ | refine Bel.alloc ?_ _ | refine Below.drew ?_ | refine Bel.drewN ?_ _)) hkb (by first | omega | (simp; omega)))); replace HR1 := Lib.hid hBS; replace HK := Lib.hid (Kp.own hkb (by first | omega | (simp; omega)) (Kp.trans HK.out hka)); have hszS := hkb.size_; have hsyS := hka.size_; (try simp only [World.size_alloc, World.size_drew, World.heap_drewN, World.size_setCell] at hszS hsyS); clear hBS hka hkb hlSo; have hlSS := HS.out.lt
    refine hK.out _ _ (⟨HF.out, trivial⟩) (fun hHeld => ?_)
    clear hK K
    try simp only [Act.put, List.setIfInBounds_toArray, List.set_cons_zero, List.set_cons_succ]
    refine wpAnyH_take (i := 6) (v := (.slice (some ⟨gb, 0, none⟩) ((p0 :: pr)).length c3)) rfl (by kernel_rfl) (by kernel_rfl) (by kernel_rfl) (fun _ _ _ h => h) (Or.inl ⟨by rfl, fun w _ => by simp [go_sem, execOp]⟩) hHeld ?_
    simp only [Act.put, List.getElem_toArray, List.getElem_cons_succ, List.getElem_cons_zero, List.setIfInBounds_toArray, List.set_cons_zero, List.set_cons_succ]
    refine wpAnyH_take (i := 7) (v := (.slice G4 ps4.length c4)) rfl (by kernel_rfl) (by kernel_rfl) (by kernel_rfl) (fun _ _ _ h => h) (Or.inl ⟨by rfl, fun w _ => by simp [go_sem, execOp]⟩) hHeld ?_
    simp only [Act.put, List.getElem_toArray, List.getElem_cons_succ, List.getElem_cons_zero, List.setIfInBounds_toArray, List.set_cons_zero, List.set_cons_succ]
    refine wpAnyH_take (i := 8) (v := (.int .i64 x7)) rfl (by kernel_rfl) (by kernel_rfl) (by kernel_rfl) (fun _ _ _ h => h) (Or.inl ⟨by rfl, fun w _ => by simp [go_sem, execOp]⟩) hHeld ?_
    simp only [Act.put, List.getElem_toArray, List.getElem_cons_succ, List.getElem_cons_zero, List.setIfInBounds_toArray, List.set_cons_zero, List.set_cons_succ]
    refine wpAnyH_done (by kernel_rfl) ?_ _
    go_wp2
    exact bodyPost_ret (results_4 rfl (resF_cell HR1.out Tryz.underlying30 (by kernel_rfl) rfl) (resF_tmp _ rfl) (resF_tmp _ rfl) (resF_tmp _ rfl)) rfl ⟨C2, g2, c2, (p0 :: pr), ps4, some ⟨gb, 0, none⟩, G4, c3, c4, x7, rfl, by omega, by omega, hn3, hn4, Own.ge_mono HO2.out (by omega), OwnP.ge_mono HP3.out (by omega), OwnP.ge_mono HP4.out (by omega), Kp.toBel HK.out (by omega)⟩
  have c0 : w5.cell? ⟨gb, 0, none⟩ = some (.int .i64 p0.1) := HP3.out.cell0
  go_upto_region 7 with (first | (refine wpList_store_own0P 25 _ _ p0.1 30 p0 pr HP3.out rfl rfl rfl rfl (by kernel_rfl) ?_; intro wS hOS hkb; replace HR1 := Lib.hid (Blk.kp hkb (by omega) HR1.out); replace HF := Lib.hid (Blk.kp hkb (by omega) HF.out); replace HO2 := Lib.hid (Own.kpB HO2.out hkb (by omega)); replace HP4 := Lib.hid (OwnP.kp hkb (by omega) HP4.out); replace HP3 := Lib.hid hOS; replace HS := Lib.hid (Src.kpg hkb (by omega) HS.out); replace HK := Lib.hid (Kp.own hkb (by omega) HK.out); clear hkb hOS c0))
  have hlZ := HF.out.lt
  refine wp_region_held_drew (S := fun W => Blk W w2.heap.size 30 #[.int .i64 C2.dg, .int .i64 C2.tn, .string C2.nm, .slice (some ⟨g2, 0, none⟩) C2.zs.length c2, .int .i64 C2.wd, .int .i64 C2.lf, .int .i64 C2.rt] ∧ True) (by kernel_rfl) (⟨HF.out.drew, trivial⟩) (fun hHeld => ?_)
  replace HR1 := Lib.hid HR1.out.drew
  replace HF := Lib.hid HF.out.drew
  replace HO2 := Lib.hid HO2.out.drew
  replace HP3 := Lib.hid HP3.out.drew
  replace HP4 := Lib.hid HP4.out.drew
  replace HS := Lib.hid HS.out.drew
  replace HK := Lib.hid HK.out.drew
  have hsd : wS.drew.heap.size = wS.heap.size := rfl
  rw [← hsd] at hlZ
  clear hsd
  generalize wS.drew = v7 at HR1 HF HO2 HP3 HP4 HS HK hHeld hlZ ⊢
  refine wpAnyH_take (i := 0) (v := .agg #[.int .i64 C2.dg, .int .i64 C2.tn, .string C2.nm, .slice (some ⟨g2, 0, none⟩) C2.zs.length c2, .int .i64 C2.wd, .int .i64 C2.lf, .int .i64 C2.rt]) rfl (by kernel_rfl) (by kernel_rfl) (by kernel_rfl) (fun _ _ _ h => h) (yieldsIf_load_blk 30 _ (w2.heap.size) (fun _ h => h.1) Tryz.underlying30 (by kernel_rfl) (by rfl) rfl rfl) hHeld ?_
  simp only [Act.put, List.getElem_toArray, List.getElem_cons_succ, List.getElem_cons_zero, List.setIfInBounds_toArray, List.set_cons_zero, List.set_cons_succ]
  refine wpAnyH_take (i := 1) (v := (.slice (some ⟨gb, 0, none⟩) (((p0.1, 30) :: pr)).length c3)) rfl (by kernel_rfl) (by kernel_rfl) (by kernel_rfl) (fun _ _ _ h => h) (Or.inl ⟨by rfl, fun w _ => by simp [go_sem, execOp]⟩) hHeld ?_
  simp only [Act.put, List.getElem_toArray, List.getElem_cons_succ, List.getElem_cons_zero, List.setIfInBounds_toArray, List.set_cons_zero, List.set_cons_succ]
  refine wpAnyH_take (i := 2) (v := (.slice G4 ps4.length c4)) rfl (by kernel_rfl) (by kernel_rfl) (by kernel_rfl) (fun _ _ _ h => h) (Or.inl ⟨by rfl, fun w _ => by simp [go_sem, execOp]⟩) hHeld ?_
  simp only [Act.put, List.getElem_toArray, List.getElem_cons_succ, List.getElem_cons_zero, List.setIfInBounds_toArray, List.set_cons_zero, List.set_cons_succ]
  refine wpAnyH_take (i := 3) (v := (.pointer (some ⟨X, 0, none⟩))) rfl (by kernel_rfl) (by kernel_rfl) (by kernel_rfl) (fun _ _ _ h => h) (Or.inl ⟨by rfl, fun w _ => by simp [go_sem, execOp]⟩) hHeld ?_
  simp only [Act.put, List.getElem_toArray, List.getElem_cons_succ, List.getElem_cons_zero, List.setIfInBounds_toArray, List.set_cons_zero, List.set_cons_succ]
  refine wpAnyH_ready (rs := [4]) (by kernel_rfl) (by simp) ?_
  refine AllReadyH.cons rfl (fun K hK => ?_) AllReadyH.nil
  go_simp
  go_at_call 52; refine (l06DrawEye_c X A zs _ (zsr HS)).mono ?_; rintro e w7 ⟨x7, rfl, hd7⟩; have hkb := hd7.kp; have hka := zka HK hkb; have hlS7 := HS.out.lt; (try replace HR1 := zb hka hkb HR1); (try replace HF := zb hka hkb HF); (try replace HO2 := zo hka hkb HO2); (try replace HP3 := zP hka hkb HP3); (try replace HP4 := zP hka hkb HP4); replace HK := zt HK hka hkb; have hsz7 := hkb.size_; have hsy7 := hka.size_; (try simp only [World.size_alloc, World.size_drew, World.heap_drewN, World.size_setCell] at hsz7 hsy7); replace HS := Lib.hid hd7.src; clear hka hkb hd7 hlS7; have hlS7 := HS.out.lt
  go_wp2_with fail
  refine hK.out _ _ (⟨HF.out, trivial⟩) (fun hHeld => ?_)
  clear hK K
  try simp only [Act.put, List.setIfInBounds_toArray, List.set_cons_zero, List.set_cons_succ]
  refine wpAnyH_ready (rs := [5]) (by kernel_rfl) (by simp) ?_
  refine AllReadyH.cons rfl (fun K hK => ?_) AllReadyH.nil
  refine step_store_part 30 _ _ _ 0 (.agg #[.int .i64 C2.dg, .int .i64 C2.tn, .string C2.nm, .slice (some ⟨g2, 0, none⟩) C2.zs.length c2, .int .i64 C2.wd, .int .i64 C2.lf, .int .i64 C2.rt]) #[.int .i64 C2.dg, .int .i64 C2.tn, .string C2.nm, .slice (some ⟨g2, 0, none⟩) C2.zs.length c2, .int .i64 C2.wd, .int .i64 C2.lf, .int .i64 C2.rt] (Blk.kp (zk0 HK) (by first | omega | (simp; omega)) HR1.out) rfl rfl rfl rfl rfl (by rfl) (by kernel_rfl) (by simp [Value.oneCell']) (by simp) ?_; intro wS hBS hkb; simp only [setL, List.setIfInBounds_toArray, List.set_cons_zero, List.set_cons_succ] at hBS; have hka := zka HK hkb; have hlSo := HS.out.lt; (try replace HF := zb hka hkb HF); (try replace HO2 := zo hka hkb HO2); (try replace HP3 := zP hka hkb HP3); (try replace HP4 := zP hka hkb HP4); (try replace HS := Lib.hid (Src.kpg2 HS.out (by repeat (with_reducible first | exact Below.refl _ _ | refine Bel.alloc ?_ _ | refine Below.drew ?_ | refine Bel.drewN ?_ _)) hkb (by first | omega | (simp; omega)))); replace HR1 := Lib.hid hBS; replace HK := Lib.hid (Kp.own hkb (by first | omega | (simp; omega)) (Kp.trans HK.out hka)); have hszS := hkb.size_; have hsyS := hka.size_; (try simp only [World.size_alloc, World.size_drew, World.heap_drewN, World.size_setCell] at hszS hsyS); clear hBS hka hkb hlSo; have hlSS := HS.out.lt
  refine hK.out _ _ (⟨HF.out, trivial⟩) (fun hHeld => ?_)
  clear hK K
  try simp only [Act.put, List.setIfInBounds_toArray, List.set_cons_zero, List.set_cons_succ]
  refine wpAnyH_take (i := 6) (v := (.slice (some ⟨gb, 0, none⟩) (((p0.1, 30) :: pr)).length c3)) rfl (by kernel_rfl) (by kernel_rfl) (by kernel_rfl) (fun _ _ _ h => h) (Or.inl ⟨by rfl, fun w _ => by simp [go_sem, execOp]⟩) hHeld ?_
  simp only [Act.put, List.getElem_toArray, List.getElem_cons_succ, List.getElem_cons_zero, List.setIfInBounds_toArray, List.set_cons_zero, List.set_cons_succ]
  refine wpAnyH_take (i := 7) (v := (.slice G4 ps4.length c4)) rfl (by kernel_rfl) (by kernel_rfl) (by kernel_rfl) (fun _ _ _ h => h) (Or.inl ⟨by rfl, fun w _ => by simp [go_sem, execOp]⟩) hHeld ?_
  simp only [Act.put, List.getElem_toArray, List.getElem_cons_succ, List.getElem_cons_zero, List.setIfInBounds_toArray, List.set_cons_zero, List.set_cons_succ]
  refine wpAnyH_take (i := 8) (v := (.int .i64 x7)) rfl (by kernel_rfl) (by kernel_rfl) (by kernel_rfl) (fun _ _ _ h => h) (Or.inl ⟨by rfl, fun w _ => by simp [go_sem, execOp]⟩) hHeld ?_
  simp only [Act.put, List.getElem_toArray, List.getElem_cons_succ, List.getElem_cons_zero, List.setIfInBounds_toArray, List.set_cons_zero, List.set_cons_succ]
  refine wpAnyH_done (by kernel_rfl) ?_ _
  go_wp2
  exact bodyPost_ret (results_4 rfl (resF_cell HR1.out Tryz.underlying30 (by kernel_rfl) rfl) (resF_tmp _ rfl) (resF_tmp _ rfl) (resF_tmp _ rfl)) rfl ⟨C2, g2, c2, ((p0.1, 30) :: pr), ps4, some ⟨gb, 0, none⟩, G4, c3, c4, x7, rfl, by omega, by omega, hn3, hn4, Own.ge_mono HO2.out (by omega), OwnP.ge_mono HP3.out (by omega), OwnP.ge_mono HP4.out (by omega), Kp.toBel HK.out (by omega)⟩
end Go.Proofs.YtpmcgicopogbhaaGreat
