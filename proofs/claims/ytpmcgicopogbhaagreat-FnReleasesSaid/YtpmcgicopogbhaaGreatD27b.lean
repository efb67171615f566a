/- Draws: a release and a pair. Conditions: as stated at each contract. -/
import Derived.Test.YtpmcgicopogbhaaGreatProg
import Derived.Test.YtpmcgicopogbhaaGreatBase
import Derived.Test.YtpmcgicopogbhaaGreatZz
import Derived.Test.YtpmcgicopogbhaaGreatRw
import Derived.Test.YtpmcgicopogbhaaGreatRg
import Derived.Test.YtpmcgicopogbhaaGreatL01
import Derived.Test.YtpmcgicopogbhaaGreatCp
import Derived.Test.YtpmcgicopogbhaaGreatCm
import Derived.Test.YtpmcgicopogbhaaGreatL18
import Derived.Test.YtpmcgicopogbhaaGreatL23
import Derived.Test.YtpmcgicopogbhaaGreatL03
import Derived.Test.YtpmcgicopogbhaaGreatL23d
import Derived.Test.YtpmcgicopogbhaaGreatL27o
import Derived.Test.YtpmcgicopogbhaaGreatD00
import Derived.Test.YtpmcgicopogbhaaGreatD01
import Derived.Test.YtpmcgicopogbhaaGreatD02
import Derived.Test.YtpmcgicopogbhaaGreatD18
import Derived.Test.YtpmcgicopogbhaaGreatD23
import Derived.Test.YtpmcgicopogbhaaGreatD27
import Derived.WalkKit
import Derived.WalkSpells
import Derived.WalkLawsBesides
import Derived.Lib.Hide
import Derived.Deep.QuietTactic
import Derived.BigQuiet
import Derived.Deep.Draws
import Derived.Deep.RegionHeld3
import Derived.Deep.Cut
namespace Go.Proofs.YtpmcgicopogbhaaGreat
open Go.RowKit
set_option linter.unusedVariables false
set_option linter.unusedSimpArgs false
structure BoxP (P : Prop) : Prop where
  out : P
theorem cut_P {G : Prop} (P : Prop) (k : BoxP P → G) (h : P) : G := k ⟨h⟩
/-- A release and two figures are drawn. -/
def PrQ (w : World) (e : Ending) (w' : World) : Prop := ∃ (R : Re) (g c : Nat) (ud ut vd vt : Int), e = .returned (.tuple #[.agg #[.int .i64 R.ch.dg, .int .i64 R.ch.tn, .string R.ch.nm, .slice (some ⟨g, 0, none⟩) R.ch.zs.length c, .int .i64 R.ch.wd, .int .i64 R.ch.lf, .int .i64 R.ch.rt, .int .i64 R.ad, .int .i64 R.at_, .int .i64 R.bd, .int .i64 R.bt, .int .i64 R.cd, .int .i64 R.ct, .int .i64 R.dd, .int .i64 R.dt, .int .i64 R.ey, .int .i64 R.bo], .agg #[.int .i64 ud, .int .i64 ut], .agg #[.int .i64 vd, .int .i64 vt]]) ∧ R.ch.zs.length ≤ 27 ∧ R.ch.nm.size ≤ 27 ∧ Own w' w.heap.size 2 (.slice (some ⟨g, 0, none⟩) R.ch.zs.length c) R.ch.zs ∧ Below w.heap.size w w'
set_option maxRecDepth 50000 in
set_option maxHeartbeats 16000000 in
theorem l27DrawPair_c (A : Option Addr) (c : Nat) (zs : List Int) (hz : zs.length ≤ 4096) (w : World) (hA : Byts w A zs) :
    Calls Tryz.prog 56 #[.slice A zs.length c] w (PrQ w) := by
  have HA := Lib.hid hA
  have HB := Lib.hid (Below.refl w.heap.size w)
  have HR1 := Lib.hid (by have h := Blk.new w 32 #[.int .i64 0, .int .i64 0, .string ⟨#[]⟩, .slice none 0 0, .int .i64 0, .int .i64 0, .int .i64 0, .int .i64 0, .int .i64 0, .int .i64 0, .int .i64 0, .int .i64 0, .int .i64 0, .int .i64 0, .int .i64 0, .int .i64 0, .int .i64 0]; (try simp only [World.size_alloc] at h); exact h)
  replace HB := Lib.hid (Bel.alloc HB.out (.cells #[.int .i64 0, .int .i64 0, .string ⟨#[]⟩, .slice none 0 0, .int .i64 0, .int .i64 0, .int .i64 0, .int .i64 0, .int .i64 0, .int .i64 0, .int .i64 0, .int .i64 0, .int .i64 0, .int .i64 0, .int .i64 0, .int .i64 0, .int .i64 0] 32))
  have HR2 := Lib.hid (by have h := Blk.new (w.alloc (.cells #[.int .i64 0, .int .i64 0, .string ⟨#[]⟩, .slice none 0 0, .int .i64 0, .int .i64 0, .int .i64 0, .int .i64 0, .int .i64 0, .int .i64 0, .int .i64 0, .int .i64 0, .int .i64 0, .int .i64 0, .int .i64 0, .int .i64 0, .int .i64 0] 32)) 25 #[.int .i64 0, .int .i64 0]; (try simp only [World.size_alloc] at h); exact h)
  replace HR1 := Lib.hid (Blk.alloc (.cells #[.int .i64 0, .int .i64 0] 25) HR1.out)
  replace HB := Lib.hid (Bel.alloc HB.out (.cells #[.int .i64 0, .int .i64 0] 25))
  have HR3 := Lib.hid (by have h := Blk.new ((w.alloc (.cells #[.int .i64 0, .int .i64 0, .string ⟨#[]⟩, .slice none 0 0, .int .i64 0, .int .i64 0, .int .i64 0, .int .i64 0, .int .i64 0, .int .i64 0, .int .i64 0, .int .i64 0, .int .i64 0, .int .i64 0, .int .i64 0, .int .i64 0, .int .i64 0] 32)).alloc (.cells #[.int .i64 0, .int .i64 0] 25)) 25 #[.int .i64 0, .int .i64 0]; (try simp only [World.size_alloc] at h); exact h)
  replace HR1 := Lib.hid (Blk.alloc (.cells #[.int .i64 0, .int .i64 0] 25) HR1.out)
  replace HR2 := Lib.hid (Blk.alloc (.cells #[.int .i64 0, .int .i64 0] 25) HR2.out)
  replace HB := Lib.hid (Bel.alloc HB.out (.cells #[.int .i64 0, .int .i64 0] 25))
  clear hA
  go_enter Tryz.func56, Tryz.ntmps56
  go_wp2_with fail
  go_at_call 44; refine (l01From_c A c zs hz _ (Byts.step (by repeat (with_reducible first | exact Below.refl _ _ | refine Bel.alloc ?_ _)) HA.out)).mono ?_; rintro e w1 ⟨X, rfl, hX, hS, hb1⟩; replace HR1 := Lib.hid (Blk.step hb1 HR1.out); replace HR2 := Lib.hid (Blk.step hb1 HR2.out); replace HR3 := Lib.hid (Blk.step hb1 HR3.out); have HS := Lib.hid hS; have HK := Lib.hid (Kp.below (X := X) (a := w) hb1 (by repeat (with_reducible first | exact Kp.refl _ _ | refine Kp.alloc _ ?_ | refine Kp.drew ?_ | refine Kp.drewN _ ?_))); have hlX := hS.lt; have hsz1 := hb1.size; (try simp only [World.size_alloc] at hX hsz1); clear hS hb1
  clear HB
  go_wp2_with fail
  go_at_call 45; refine (l27Draw_c X A zs _ (zsr HS)).mono ?_; rintro e w2 ⟨R2, g2, c2, rfl, hn2, hm2, hO2, hd2⟩; obtain ⟨hq2, hr2⟩ := World.ownsRow.lt hO2 g2 rfl; (try simp only [World.size_alloc] at hq2); have HO2 := Lib.hid hO2; clear hO2; have hkb := hd2.kp; have hka := zka HK hkb; have hlS2 := HS.out.lt; (try replace HR1 := zb hka hkb HR1); (try replace HR2 := zb hka hkb HR2); (try replace HR3 := zb hka hkb HR3); replace HK := zt HK hka hkb; have hsz2 := hkb.size_; have hsy2 := hka.size_; (try simp only [World.size_alloc, World.size_drew, World.heap_drewN, World.size_setCell] at hsz2 hsy2); replace HS := Lib.hid hd2.src; clear hka hkb hd2 hlS2; have hlS2 := HS.out.lt
  have HM := Lib.hid (Blk.new w2 32 #[.int .i64 R2.ch.dg, .int .i64 R2.ch.tn, .string R2.ch.nm, .slice (some ⟨g2, 0, none⟩) R2.ch.zs.length c2, .int .i64 R2.ch.wd, .int .i64 R2.ch.lf, .int .i64 R2.ch.rt, .int .i64 R2.ad, .int .i64 R2.at_, .int .i64 R2.bd, .int .i64 R2.bt, .int .i64 R2.cd, .int .i64 R2.ct, .int .i64 R2.dd, .int .i64 R2.dt, .int .i64 R2.ey, .int .i64 R2.bo])
  replace HR1 := Lib.hid (Blk.alloc (.cells #[.int .i64 R2.ch.dg, .int .i64 R2.ch.tn, .string R2.ch.nm, .slice (some ⟨g2, 0, none⟩) R2.ch.zs.length c2, .int .i64 R2.ch.wd, .int .i64 R2.ch.lf, .int .i64 R2.ch.rt, .int .i64 R2.ad, .int .i64 R2.at_, .int .i64 R2.bd, .int .i64 R2.bt, .int .i64 R2.cd, .int .i64 R2.ct, .int .i64 R2.dd, .int .i64 R2.dt, .int .i64 R2.ey, .int .i64 R2.bo] 32) HR1.out)
  replace HR2 := Lib.hid (Blk.alloc (.cells #[.int .i64 R2.ch.dg, .int .i64 R2.ch.tn, .string R2.ch.nm, .slice (some ⟨g2, 0, none⟩) R2.ch.zs.length c2, .int .i64 R2.ch.wd, .int .i64 R2.ch.lf, .int .i64 R2.ch.rt, .int .i64 R2.ad, .int .i64 R2.at_, .int .i64 R2.bd, .int .i64 R2.bt, .int .i64 R2.cd, .int .i64 R2.ct, .int .i64 R2.dd, .int .i64 R2.dt, .int .i64 R2.ey, .int .i64 R2.bo] 32) HR2.out)
  replace HR3 := Lib.hid (Blk.alloc (.cells #[.int .i64 R2.ch.dg, .int .i64 R2.ch.tn, .string R2.ch.nm, .slice (some ⟨g2, 0, none⟩) R2.ch.zs.length c2, .int .i64 R2.ch.wd, .int .i64 R2.ch.lf, .int .i64 R2.ch.rt, .int .i64 R2.ad, .int .i64 R2.at_, .int .i64 R2.bd, .int .i64 R2.bt, .int .i64 R2.cd, .int .i64 R2.ct, .int .i64 R2.dd, .int .i64 R2.dt, .int .i64 R2.ey, .int .i64 R2.bo] 32) HR3.out)
  replace HO2 := Lib.hid (Own.alloc (.cells #[.int .i64 R2.ch.dg, .int .i64 R2.ch.tn, .string R2.ch.nm, .slice (some ⟨g2, 0, none⟩) R2.ch.zs.length c2, .int .i64 R2.ch.wd, .int .i64 R2.ch.lf, .int .i64 R2.ch.rt, .int .i64 R2.ad, .int .i64 R2.at_, .int .i64 R2.bd, .int .i64 R2.bt, .int .i64 R2.cd, .int .i64 R2.ct, .int .i64 R2.dd, .int .i64 R2.dt, .int .i64 R2.ey, .int .i64 R2.bo] 32) HO2.out)
  replace HS := Lib.hid (Src.alloc (.cells #[.int .i64 R2.ch.dg, .int .i64 R2.ch.tn, .string R2.ch.nm, .slice (some ⟨g2, 0, none⟩) R2.ch.zs.length c2, .int .i64 R2.ch.wd, .int .i64 R2.ch.lf, .int .i64 R2.ch.rt, .int .i64 R2.ad, .int .i64 R2.at_, .int .i64 R2.bd, .int .i64 R2.bt, .int .i64 R2.cd, .int .i64 R2.ct, .int .i64 R2.dd, .int .i64 R2.dt, .int .i64 R2.ey, .int .i64 R2.bo] 32) HS.out)
  replace HK := Lib.hid (Kp.alloc (.cells #[.int .i64 R2.ch.dg, .int .i64 R2.ch.tn, .string R2.ch.nm, .slice (some ⟨g2, 0, none⟩) R2.ch.zs.length c2, .int .i64 R2.ch.wd, .int .i64 R2.ch.lf, .int .i64 R2.ch.rt, .int .i64 R2.ad, .int .i64 R2.at_, .int .i64 R2.bd, .int .i64 R2.bt, .int .i64 R2.cd, .int .i64 R2.ct, .int .i64 R2.dd, .int .i64 R2.dt, .int .i64 R2.ey, .int .i64 R2.bo] 32) HK.out)
  have hlM := HM.out.lt
  go_upto_region 3 with (fail)
  have hlV := HM.out.lt
  refine wp_region_held_drew (S := fun W => Blk W w2.heap.size 32 #[.int .i64 R2.ch.dg, .int .i64 R2.ch.tn, .string R2.ch.nm, .slice (some ⟨g2, 0, none⟩) R2.ch.zs.length c2, .int .i64 R2.ch.wd, .int .i64 R2.ch.lf, .int .i64 R2.ch.rt, .int .i64 R2.ad, .int .i64 R2.at_, .int .i64 R2.bd, .int .i64 R2.bt, .int .i64 R2.cd, .int .i64 R2.ct, .int .i64 R2.dd, .int .i64 R2.dt, .int .i64 R2.ey, .int .i64 R2.bo] ∧ True) (by kernel_rfl) (⟨HM.out.drew, trivial⟩) (fun hHeld => ?_)
  replace HR1 := Lib.hid HR1.out.drew
  replace HR2 := Lib.hid HR2.out.drew
  replace HR3 := Lib.hid HR3.out.drew
  replace HM := Lib.hid HM.out.drew
  replace HO2 := Lib.hid HO2.out.drew
  replace HS := Lib.hid HS.out.drew
  replace HK := Lib.hid HK.out.drew
  have hsd : (w2.alloc (.cells #[.int .i64 R2.ch.dg, .int .i64 R2.ch.tn, .string R2.ch.nm, .slice (some ⟨g2, 0, none⟩) R2.ch.zs.length c2, .int .i64 R2.ch.wd, .int .i64 R2.ch.lf, .int .i64 R2.ch.rt, .int .i64 R2.ad, .int .i64 R2.at_, .int .i64 R2.bd, .int .i64 R2.bt, .int .i64 R2.cd, .int .i64 R2.ct, .int .i64 R2.dd, .int .i64 R2.dt, .int .i64 R2.ey, .int .i64 R2.bo] 32)).drew.heap.size = (w2.alloc (.cells #[.int .i64 R2.ch.dg, .int .i64 R2.ch.tn, .string R2.ch.nm, .slice (some ⟨g2, 0, none⟩) R2.ch.zs.length c2, .int .i64 R2.ch.wd, .int .i64 R2.ch.lf, .int .i64 R2.ch.rt, .int .i64 R2.ad, .int .i64 R2.at_, .int .i64 R2.bd, .int .i64 R2.bt, .int .i64 R2.cd, .int .i64 R2.ct, .int .i64 R2.dd, .int .i64 R2.dt, .int .i64 R2.ey, .int .i64 R2.bo] 32)).heap.size := rfl
  rw [← hsd] at hlV
  clear hsd
  generalize (w2.alloc (.cells #[.int .i64 R2.ch.dg, .int .i64 R2.ch.tn, .string R2.ch.nm, .slice (some ⟨g2, 0, none⟩) R2.ch.zs.length c2, .int .i64 R2.ch.wd, .int .i64 R2.ch.lf, .int .i64 R2.ch.rt, .int .i64 R2.ad, .int .i64 R2.at_, .int .i64 R2.bd, .int .i64 R2.bt, .int .i64 R2.cd, .int .i64 R2.ct, .int .i64 R2.dd, .int .i64 R2.dt, .int .i64 R2.ey, .int .i64 R2.bo] 32)).drew = v3 at HR1 HR2 HR3 HM HO2 HS HK hHeld hlV ⊢
  refine wpAnyH_take (i := 0) (v := (.pointer (some ⟨w2.heap.size, 7, none⟩))) rfl (by kernel_rfl) (by kernel_rfl) (by kernel_rfl) (fun _ _ _ h => h) (Or.inl ⟨by rfl, fun w _ => by simp [go_sem, execOp]⟩) hHeld ?_
  simp only [Act.put, List.getElem_toArray, List.getElem_cons_succ, List.getElem_cons_zero, List.setIfInBounds_toArray, List.set_cons_zero, List.set_cons_succ]
  refine wpAnyH_take (i := 1) (v := (.agg #[.int .i64 R2.ad, .int .i64 R2.at_])) rfl (by kernel_rfl) (by kernel_rfl) (by kernel_rfl) (fun _ _ _ h => h) (Or.inl ⟨by rfl, fun w' h => by have q0 := h.1.cell 7; have q1 := h.1.cell 8; simp [go_sem, execOp, q0, q1]⟩) hHeld ?_
  simp only [Act.put, List.getElem_toArray, List.getElem_cons_succ, List.getElem_cons_zero, List.setIfInBounds_toArray, List.set_cons_zero, List.set_cons_succ]
  refine wpAnyH_take (i := 2) (v := (.pointer (some ⟨w2.heap.size, 9, none⟩))) rfl (by kernel_rfl) (by kernel_rfl) (by kernel_rfl) (fun _ _ _ h => h) (Or.inl ⟨by rfl, fun w _ => by simp [go_sem, execOp]⟩) hHeld ?_
  simp only [Act.put, List.getElem_toArray, List.getElem_cons_succ, List.getElem_cons_zero, List.setIfInBounds_toArray, List.set_cons_zero, List.set_cons_succ]
  refine wpAnyH_take (i := 3) (v := (.agg #[.int .i64 R2.bd, .int .i64 R2.bt])) rfl (by kernel_rfl) (by kernel_rfl) (by kernel_rfl) (fun _ _ _ h => h) (Or.inl ⟨by rfl, fun w' h => by have q0 := h.1.cell 9; have q1 := h.1.cell 10; simp [go_sem, execOp, q0, q1]⟩) hHeld ?_
  simp only [Act.put, List.getElem_toArray, List.getElem_cons_succ, List.getElem_cons_zero, List.setIfInBounds_toArray, List.set_cons_zero, List.set_cons_succ]
  refine wpAnyH_take (i := 4) (v := (.pointer (some ⟨w2.heap.size, 7, none⟩))) rfl (by kernel_rfl) (by kernel_rfl) (by kernel_rfl) (fun _ _ _ h => h) (Or.inl ⟨by rfl, fun w _ => by simp [go_sem, execOp]⟩) hHeld ?_
  simp only [Act.put, List.getElem_toArray, List.getElem_cons_succ, List.getElem_cons_zero, List.setIfInBounds_toArray, List.set_cons_zero, List.set_cons_succ]
  refine wpAnyH_take (i := 5) (v := (.agg #[.int .i64 R2.ad, .int .i64 R2.at_])) rfl (by kernel_rfl) (by kernel_rfl) (by kernel_rfl) (fun _ _ _ h => h) (Or.inl ⟨by rfl, fun w' h => by have q0 := h.1.cell 7; have q1 := h.1.cell 8; simp [go_sem, execOp, q0, q1]⟩) hHeld ?_
  simp only [Act.put, List.getElem_toArray, List.getElem_cons_succ, List.getElem_cons_zero, List.setIfInBounds_toArray, List.set_cons_zero, List.set_cons_succ]
  refine wpAnyH_take (i := 7) (v := (.pointer (some ⟨X, 0, none⟩))) rfl (by kernel_rfl) (by kernel_rfl) (by kernel_rfl) (fun _ _ _ h => h) (Or.inl ⟨by rfl, fun w _ => by simp [go_sem, execOp]⟩) hHeld ?_
  simp only [Act.put, List.getElem_toArray, List.getElem_cons_succ, List.getElem_cons_zero, List.setIfInBounds_toArray, List.set_cons_zero, List.set_cons_succ]
  apply cut_P
  · intro key
    refine wpAnyH_ready (rs := [6, 8, 11]) (by kernel_rfl) (by simp) ?_
    refine AllReadyH.cons rfl (fun K hK => ?_) (AllReadyH.cons rfl (fun K hK => ?_) (AllReadyH.cons rfl (fun K hK => ?_) (AllReadyH.nil)))
    · skip
      go_simp
      have HN := Lib.hid (Blk.new v3 25 #[.int .i64 R2.ad, .int .i64 R2.at_, .int .i64 R2.bd, .int .i64 R2.bt, .int .i64 R2.ad, .int .i64 R2.at_])
      replace HR1 := Lib.hid (Blk.alloc (.cells #[.int .i64 R2.ad, .int .i64 R2.at_, .int .i64 R2.bd, .int .i64 R2.bt, .int .i64 R2.ad, .int .i64 R2.at_] 25) HR1.out)
      replace HR2 := Lib.hid (Blk.alloc (.cells #[.int .i64 R2.ad, .int .i64 R2.at_, .int .i64 R2.bd, .int .i64 R2.bt, .int .i64 R2.ad, .int .i64 R2.at_] 25) HR2.out)
      replace HR3 := Lib.hid (Blk.alloc (.cells #[.int .i64 R2.ad, .int .i64 R2.at_, .int .i64 R2.bd, .int .i64 R2.bt, .int .i64 R2.ad, .int .i64 R2.at_] 25) HR3.out)
      replace HM := Lib.hid (Blk.alloc (.cells #[.int .i64 R2.ad, .int .i64 R2.at_, .int .i64 R2.bd, .int .i64 R2.bt, .int .i64 R2.ad, .int .i64 R2.at_] 25) HM.out)
      replace HO2 := Lib.hid (Own.alloc (.cells #[.int .i64 R2.ad, .int .i64 R2.at_, .int .i64 R2.bd, .int .i64 R2.bt, .int .i64 R2.ad, .int .i64 R2.at_] 25) HO2.out)
      replace HS := Lib.hid (Src.alloc (.cells #[.int .i64 R2.ad, .int .i64 R2.at_, .int .i64 R2.bd, .int .i64 R2.bt, .int .i64 R2.ad, .int .i64 R2.at_] 25) HS.out)
      replace HK := Lib.hid (Kp.alloc (.cells #[.int .i64 R2.ad, .int .i64 R2.at_, .int .i64 R2.bd, .int .i64 R2.bt, .int .i64 R2.ad, .int .i64 R2.at_] 25) HK.out)
      have hlN := HN.out.lt
      refine hK.out _ _ (⟨HM.out, trivial⟩) (fun hHeld => ?_)
      clear hK K
      try simp only [Act.put, List.setIfInBounds_toArray, List.set_cons_zero, List.set_cons_succ]
      refine wpAnyH_ready (rs := [8, 11]) (by kernel_rfl) (by simp) ?_
      refine AllReadyH.cons rfl (fun K hK => ?_) (AllReadyH.cons rfl (fun K hK => ?_) (AllReadyH.nil))
      · skip
        go_simp
        go_at_call 46; refine (l01Next_c X A zs _ (by omega) _ (zsr HS)).mono ?_; rintro e w3 ⟨x3, rfl, hx3, hy3, hd3⟩; (try rw [Int.max_eq_left (by omega)] at hy3); have hkb := hd3.kp; have hka := zka HK hkb; have hlS3 := HS.out.lt; (try replace HR1 := zb hka hkb HR1); (try replace HR2 := zb hka hkb HR2); (try replace HR3 := zb hka hkb HR3); (try replace HM := zb hka hkb HM); (try replace HN := zb hka hkb HN); (try replace HO2 := zo hka hkb HO2); replace HK := zt HK hka hkb; have hsz3 := hkb.size_; have hsy3 := hka.size_; (try simp only [World.size_alloc, World.size_drew, World.heap_drewN, World.size_setCell] at hsz3 hsy3); replace HS := Lib.hid hd3.src; clear hka hkb hd3 hlS3; have hlS3 := HS.out.lt
        refine hK.out _ _ (⟨HM.out, trivial⟩) (fun hHeld => ?_)
        clear hK K
        try simp only [Act.put, List.setIfInBounds_toArray, List.set_cons_zero, List.set_cons_succ]
        obtain ⟨j, rfl⟩ : ∃ j : Nat, x3 = j := ⟨x3.toNat, by omega⟩
        refine wpAnyH_ready (rs := [9, 11]) (by kernel_rfl) (by simp) ?_
        refine AllReadyH.cons rfl (fun K hK => ?_) (AllReadyH.cons rfl (fun K hK => ?_) (AllReadyH.nil))
        · skip
          have hj3 : j < 3 := by omega
          have hj3i : ¬ (3 : Int) ≤ j := by omega
          go_simp
          refine hK.out _ _ (⟨HM.out, trivial⟩) (fun hHeld => ?_)
          clear hK K
          try simp only [Act.put, List.setIfInBounds_toArray, List.set_cons_zero, List.set_cons_succ]
          refine wpAnyH_ready (rs := [10, 11]) (by kernel_rfl) (by simp) ?_
          refine AllReadyH.cons rfl (fun K hK => ?_) (AllReadyH.cons rfl (fun K hK => ?_) (AllReadyH.nil))
          · skip
            obtain ⟨fd, ft, n0, n1⟩ : ∃ fd ft : Int, (w3).cell? ⟨v3.heap.size, j * 2, none⟩ = some (.int .i64 fd) ∧ (w3).cell? ⟨v3.heap.size, j * 2 + 1, none⟩ = some (.int .i64 ft) := by
              rcases (show j = 0 ∨ j = 1 ∨ j = 2 by omega) with rfl | rfl | rfl
              · exact ⟨_, _, by rw [HN.out.cell]; rfl, by rw [HN.out.cell]; rfl⟩
              · exact ⟨_, _, by rw [HN.out.cell]; rfl, by rw [HN.out.cell]; rfl⟩
              · exact ⟨_, _, by rw [HN.out.cell]; rfl, by rw [HN.out.cell]; rfl⟩
            go_simp
            refine hK.out _ _ (⟨HM.out, trivial⟩) (fun hHeld => ?_)
            clear hK K
            try simp only [Act.put, List.setIfInBounds_toArray, List.set_cons_zero, List.set_cons_succ]
            clear n0 n1
            refine wpAnyH_ready (rs := [11]) (by kernel_rfl) (by simp) ?_
            refine AllReadyH.cons rfl (fun K hK => ?_) (AllReadyH.nil)
            go_simp
            have HG := Lib.hid (Blk.new w3 25 #[.int .i64 0, .int .i64 0])
            replace HR1 := Lib.hid (Blk.alloc (.cells #[.int .i64 0, .int .i64 0] 25) HR1.out)
            replace HR2 := Lib.hid (Blk.alloc (.cells #[.int .i64 0, .int .i64 0] 25) HR2.out)
            replace HR3 := Lib.hid (Blk.alloc (.cells #[.int .i64 0, .int .i64 0] 25) HR3.out)
            replace HM := Lib.hid (Blk.alloc (.cells #[.int .i64 0, .int .i64 0] 25) HM.out)
            replace HN := Lib.hid (Blk.alloc (.cells #[.int .i64 0, .int .i64 0] 25) HN.out)
            replace HO2 := Lib.hid (Own.alloc (.cells #[.int .i64 0, .int .i64 0] 25) HO2.out)
            replace HS := Lib.hid (Src.alloc (.cells #[.int .i64 0, .int .i64 0] 25) HS.out)
            replace HK := Lib.hid (Kp.alloc (.cells #[.int .i64 0, .int .i64 0] 25) HK.out)
            have hlHG := HG.out.lt
            refine hK.out _ _ (⟨HM.out, trivial⟩) (fun hHeld => ?_)
            clear hK K
            try simp only [Act.put, List.setIfInBounds_toArray, List.set_cons_zero, List.set_cons_succ]
            refine wpAnyH_ready (rs := [12]) (by kernel_rfl) (by simp) ?_
            refine AllReadyH.cons rfl (fun K hK => ?_) AllReadyH.nil
            refine step_store_part 25 _ _ _ 0 (.agg #[.int .i64 fd, .int .i64 ft]) #[.int .i64 fd, .int .i64 ft] (Blk.kp (zk0 HK) (by omega) HG.out) rfl rfl rfl rfl rfl (by rfl) (by kernel_rfl) (by simp [Value.oneCell']) (by simp) ?_; intro wS hBS hkb; simp only [setL, List.setIfInBounds_toArray, List.set_cons_zero, List.set_cons_succ] at hBS; have hka := zka HK hkb; have hlSo := HS.out.lt; (try replace HR1 := zb hka hkb HR1); (try replace HR2 := zb hka hkb HR2); (try replace HR3 := zb hka hkb HR3); (try replace HM := zb hka hkb HM); (try replace HO2 := zo hka hkb HO2); (try replace HS := Lib.hid (Src.kpg2 HS.out (by repeat (with_reducible first | exact Below.refl _ _ | refine Bel.alloc ?_ _ | refine Below.drew ?_ | refine Bel.drewN ?_ _)) hkb (by omega))); replace HG := Lib.hid hBS; replace HK := Lib.hid (Kp.own hkb (by omega) (Kp.trans HK.out hka)); have hszS := hkb.size_; have hsyS := hka.size_; (try simp only [World.size_alloc, World.size_drew, World.heap_drewN, World.size_setCell] at hszS hsyS); clear hBS hka hkb hlSo; have hlSS := HS.out.lt
            refine hK.out _ _ (⟨HM.out, trivial⟩) (fun hHeld => ?_)
            clear hK K
            try simp only [Act.put, List.setIfInBounds_toArray, List.set_cons_zero, List.set_cons_succ]
            refine wpAnyH_done (by kernel_rfl) ?_ _
            have hYl : w2.heap.size < w3.heap.size := by omega
            generalize v3.heap.size = Nb
            generalize w3.heap.size = Y at HG hYl ⊢
            revert HK; revert HS; revert HO2; revert HG; revert HM; revert HR3; revert HR2; revert HR1; revert hYl
            generalize wS = W
            generalize j = jj
            revert jj; revert ft; revert fd; revert Nb; revert Y; revert W
            exact key.out
          · skip
            go_simp
            have HG := Lib.hid (Blk.new w3 25 #[.int .i64 0, .int .i64 0])
            replace HR1 := Lib.hid (Blk.alloc (.cells #[.int .i64 0, .int .i64 0] 25) HR1.out)
            replace HR2 := Lib.hid (Blk.alloc (.cells #[.int .i64 0, .int .i64 0] 25) HR2.out)
            replace HR3 := Lib.hid (Blk.alloc (.cells #[.int .i64 0, .int .i64 0] 25) HR3.out)
            replace HM := Lib.hid (Blk.alloc (.cells #[.int .i64 0, .int .i64 0] 25) HM.out)
            replace HN := Lib.hid (Blk.alloc (.cells #[.int .i64 0, .int .i64 0] 25) HN.out)
            replace HO2 := Lib.hid (Own.alloc (.cells #[.int .i64 0, .int .i64 0] 25) HO2.out)
            replace HS := Lib.hid (Src.alloc (.cells #[.int .i64 0, .int .i64 0] 25) HS.out)
            replace HK := Lib.hid (Kp.alloc (.cells #[.int .i64 0, .int .i64 0] 25) HK.out)
            have hlHG := HG.out.lt
            refine hK.out _ _ (⟨HM.out, trivial⟩) (fun hHeld => ?_)
            clear hK K
            try simp only [Act.put, List.setIfInBounds_toArray, List.set_cons_zero, List.set_cons_succ]
            refine wpAnyH_ready (rs := [10]) (by kernel_rfl) (by simp) ?_
            refine AllReadyH.cons rfl (fun K hK => ?_) (AllReadyH.nil)
            obtain ⟨fd, ft, n0, n1⟩ : ∃ fd ft : Int, ((w3.alloc (.cells #[.int .i64 0, .int .i64 0] 25))).cell? ⟨v3.heap.size, j * 2, none⟩ = some (.int .i64 fd) ∧ ((w3.alloc (.cells #[.int .i64 0, .int .i64 0] 25))).cell? ⟨v3.heap.size, j * 2 + 1, none⟩ = some (.int .i64 ft) := by
              rcases (show j = 0 ∨ j = 1 ∨ j = 2 by omega) with rfl | rfl | rfl
              · exact ⟨_, _, by rw [HN.out.cell]; rfl, by rw [HN.out.cell]; rfl⟩
              · exact ⟨_, _, by rw [HN.out.cell]; rfl, by rw [HN.out.cell]; rfl⟩
              · exact ⟨_, _, by rw [HN.out.cell]; rfl, by rw [HN.out.cell]; rfl⟩
            go_simp
            refine hK.out _ _ (⟨HM.out, trivial⟩) (fun hHeld => ?_)
            clear hK K
            try simp only [Act.put, List.setIfInBounds_toArray, List.set_cons_zero, List.set_cons_succ]
            clear n0 n1
            refine wpAnyH_ready (rs := [12]) (by kernel_rfl) (by simp) ?_
            refine AllReadyH.cons rfl (fun K hK => ?_) AllReadyH.nil
            refine step_store_part 25 _ _ _ 0 (.agg #[.int .i64 fd, .int .i64 ft]) #[.int .i64 fd, .int .i64 ft] (Blk.kp (zk0 HK) (by omega) HG.out) rfl rfl rfl rfl rfl (by rfl) (by kernel_rfl) (by simp [Value.oneCell']) (by simp) ?_; intro wS hBS hkb; simp only [setL, List.setIfInBounds_toArray, List.set_cons_zero, List.set_cons_succ] at hBS; have hka := zka HK hkb; have hlSo := HS.out.lt; (try replace HR1 := zb hka hkb HR1); (try replace HR2 := zb hka hkb HR2); (try replace HR3 := zb hka hkb HR3); (try replace HM := zb hka hkb HM); (try replace HO2 := zo hka hkb HO2); (try replace HS := Lib.hid (Src.kpg2 HS.out (by repeat (with_reducible first | exact Below.refl _ _ | refine Bel.alloc ?_ _ | refine Below.drew ?_ | refine Bel.drewN ?_ _)) hkb (by omega))); replace HG := Lib.hid hBS; replace HK := Lib.hid (Kp.own hkb (by omega) (Kp.trans HK.out hka)); have hszS := hkb.size_; have hsyS := hka.size_; (try simp only [World.size_alloc, World.size_drew, World.heap_drewN, World.size_setCell] at hszS hsyS); clear hBS hka hkb hlSo; have hlSS := HS.out.lt
            refine hK.out _ _ (⟨HM.out, trivial⟩) (fun hHeld => ?_)
            clear hK K
            try simp only [Act.put, List.setIfInBounds_toArray, List.set_cons_zero, List.set_cons_succ]
            refine wpAnyH_done (by kernel_rfl) ?_ _
            have hYl : w2.heap.size < w3.heap.size := by omega
            exact key.out _ _ _ _ _ _ hYl HR1 HR2 HR3 HM HG HO2 HS HK
        · skip
          go_simp
          have HG := Lib.hid (Blk.new w3 25 #[.int .i64 0, .int .i64 0])
          replace HR1 := Lib.hid (Blk.alloc (.cells #[.int .i64 0, .int .i64 0] 25) HR1.out)
          replace HR2 := Lib.hid (Blk.alloc (.cells #[.int .i64 0, .int .i64 0] 25) HR2.out)
          replace HR3 := Lib.hid (Blk.alloc (.cells #[.int .i64 0, .int .i64 0] 25) HR3.out)
          replace HM := Lib.hid (Blk.alloc (.cells #[.int .i64 0, .int .i64 0] 25) HM.out)
          replace HN := Lib.hid (Blk.alloc (.cells #[.int .i64 0, .int .i64 0] 25) HN.out)
          replace HO2 := Lib.hid (Own.alloc (.cells #[.int .i64 0, .int .i64 0] 25) HO2.out)
          replace HS := Lib.hid (Src.alloc (.cells #[.int .i64 0, .int .i64 0] 25) HS.out)
          replace HK := Lib.hid (Kp.alloc (.cells #[.int .i64 0, .int .i64 0] 25) HK.out)
          have hlHG := HG.out.lt
          refine hK.out _ _ (⟨HM.out, trivial⟩) (fun hHeld => ?_)
          clear hK K
          try simp only [Act.put, List.setIfInBounds_toArray, List.set_cons_zero, List.set_cons_succ]
          refine wpAnyH_ready (rs := [9]) (by kernel_rfl) (by simp) ?_
          refine AllReadyH.cons rfl (fun K hK => ?_) (AllReadyH.nil)
          have hj3 : j < 3 := by omega
          have hj3i : ¬ (3 : Int) ≤ j := by omega
          go_simp
          refine hK.out _ _ (⟨HM.out, trivial⟩) (fun hHeld => ?_)
          clear hK K
          try simp only [Act.put, List.setIfInBounds_toArray, List.set_cons_zero, List.set_cons_succ]
          refine wpAnyH_ready (rs := [10]) (by kernel_rfl) (by simp) ?_
          refine AllReadyH.cons rfl (fun K hK => ?_) (AllReadyH.nil)
          obtain ⟨fd, ft, n0, n1⟩ : ∃ fd ft : Int, ((w3.alloc (.cells #[.int .i64 0, .int .i64 0] 25))).cell? ⟨v3.heap.size, j * 2, none⟩ = some (.int .i64 fd) ∧ ((w3.alloc (.cells #[.int .i64 0, .int .i64 0] 25))).cell? ⟨v3.heap.size, j * 2 + 1, none⟩ = some (.int .i64 ft) := by
            rcases (show j = 0 ∨ j = 1 ∨ j = 2 by omega) with rfl | rfl | rfl
            · exact ⟨_, _, by rw [HN.out.cell]; rfl, by rw [HN.out.cell]; rfl⟩
            · exact ⟨_, _, by rw [HN.out.cell]; rfl, by rw [HN.out.cell]; rfl⟩
            · exact ⟨_, _, by rw [HN.out.cell]; rfl, by rw [HN.out.cell]; rfl⟩
          go_simp
          refine hK.out _ _ (⟨HM.out, trivial⟩) (fun hHeld => ?_)
          clear hK K
          try simp only [Act.put, List.setIfInBounds_toArray, List.set_cons_zero, List.set_cons_succ]
          clear n0 n1
          refine wpAnyH_ready (rs := [12]) (by kernel_rfl) (by simp) ?_
          refine AllReadyH.cons rfl (fun K hK => ?_) AllReadyH.nil
          refine step_store_part 25 _ _ _ 0 (.agg #[.int .i64 fd, .int .i64 ft]) #[.int .i64 fd, .int .i64 ft] (Blk.kp (zk0 HK) (by omega) HG.out) rfl rfl rfl rfl rfl (by rfl) (by kernel_rfl) (by simp [Value.oneCell']) (by simp) ?_; intro wS hBS hkb; simp only [setL, List.setIfInBounds_toArray, List.set_cons_zero, List.set_cons_succ] at hBS; have hka := zka HK hkb; have hlSo := HS.out.lt; (try replace HR1 := zb hka hkb HR1); (try replace HR2 := zb hka hkb HR2); (try replace HR3 := zb hka hkb HR3); (try replace HM := zb hka hkb HM); (try replace HO2 := zo hka hkb HO2); (try replace HS := Lib.hid (Src.kpg2 HS.out (by repeat (with_reducible first | exact Below.refl _ _ | refine Bel.alloc ?_ _ | refine Below.drew ?_ | refine Bel.drewN ?_ _)) hkb (by omega))); replace HG := Lib.hid hBS; replace HK := Lib.hid (Kp.own hkb (by omega) (Kp.trans HK.out hka)); have hszS := hkb.size_; have hsyS := hka.size_; (try simp only [World.size_alloc, World.size_drew, World.heap_drewN, World.size_setCell] at hszS hsyS); clear hBS hka hkb hlSo; have hlSS := HS.out.lt
          refine hK.out _ _ (⟨HM.out, trivial⟩) (fun hHeld => ?_)
          clear hK K
          try simp only [Act.put, List.setIfInBounds_toArray, List.set_cons_zero, List.set_cons_succ]
          refine wpAnyH_done (by kernel_rfl) ?_ _
          have hYl : w2.heap.size < w3.heap.size := by omega
          exact key.out _ _ _ _ _ _ hYl HR1 HR2 HR3 HM HG HO2 HS HK
      · skip
        go_simp
        have HG := Lib.hid (by have h := Blk.new (v3.alloc (.cells #[.int .i64 R2.ad, .int .i64 R2.at_, .int .i64 R2.bd, .int .i64 R2.bt, .int .i64 R2.ad, .int .i64 R2.at_] 25)) 25 #[.int .i64 0, .int .i64 0]; (try simp only [World.size_alloc] at h); exact h)
        replace HR1 := Lib.hid (Blk.alloc (.cells #[.int .i64 0, .int .i64 0] 25) HR1.out)
        replace HR2 := Lib.hid (Blk.alloc (.cells #[.int .i64 0, .int .i64 0] 25) HR2.out)
        replace HR3 := Lib.hid (Blk.alloc (.cells #[.int .i64 0, .int .i64 0] 25) HR3.out)
        replace HM := Lib.hid (Blk.alloc (.cells #[.int .i64 0, .int .i64 0] 25) HM.out)
        replace HN := Lib.hid (Blk.alloc (.cells #[.int .i64 0, .int .i64 0] 25) HN.out)
        replace HO2 := Lib.hid (Own.alloc (.cells #[.int .i64 0, .int .i64 0] 25) HO2.out)
        replace HS := Lib.hid (Src.alloc (.cells #[.int .i64 0, .int .i64 0] 25) HS.out)
        replace HK := Lib.hid (Kp.alloc (.cells #[.int .i64 0, .int .i64 0] 25) HK.out)
        have hlHG := HG.out.lt
        refine hK.out _ _ (⟨HM.out, trivial⟩) (fun hHeld => ?_)
        clear hK K
        try simp only [Act.put, List.setIfInBounds_toArray, List.set_cons_zero, List.set_cons_succ]
        refine wpAnyH_ready (rs := [8]) (by kernel_rfl) (by simp) ?_
        refine AllReadyH.cons rfl (fun K hK => ?_) (AllReadyH.nil)
        go_simp
        go_at_call 46; refine (l01Next_c X A zs _ (by omega) _ (zsr HS)).mono ?_; rintro e w3 ⟨x3, rfl, hx3, hy3, hd3⟩; (try rw [Int.max_eq_left (by omega)] at hy3); have hkb := hd3.kp; have hka := zka HK hkb; have hlS3 := HS.out.lt; (try replace HR1 := zb hka hkb HR1); (try replace HR2 := zb hka hkb HR2); (try replace HR3 := zb hka hkb HR3); (try replace HM := zb hka hkb HM); (try replace HN := zb hka hkb HN); (try replace HG := zb hka hkb HG); (try replace HO2 := zo hka hkb HO2); replace HK := zt HK hka hkb; have hsz3 := hkb.size_; have hsy3 := hka.size_; (try simp only [World.size_alloc, World.size_drew, World.heap_drewN, World.size_setCell] at hsz3 hsy3); replace HS := Lib.hid hd3.src; clear hka hkb hd3 hlS3; have hlS3 := HS.out.lt
        refine hK.out _ _ (⟨HM.out, trivial⟩) (fun hHeld => ?_)
        clear hK K
        try simp only [Act.put, List.setIfInBounds_toArray, List.set_cons_zero, List.set_cons_succ]
        obtain ⟨j, rfl⟩ : ∃ j : Nat, x3 = j := ⟨x3.toNat, by omega⟩
        refine wpAnyH_ready (rs := [9]) (by kernel_rfl) (by simp) ?_
        refine AllReadyH.cons rfl (fun K hK => ?_) (AllReadyH.nil)
        have hj3 : j < 3 := by omega
        have hj3i : ¬ (3 : Int) ≤ j := by omega
        go_simp
        refine hK.out _ _ (⟨HM.out, trivial⟩) (fun hHeld => ?_)
        clear hK K
        try simp only [Act.put, List.setIfInBounds_toArray, List.set_cons_zero, List.set_cons_succ]
        refine wpAnyH_ready (rs := [10]) (by kernel_rfl) (by simp) ?_
        refine AllReadyH.cons rfl (fun K hK => ?_) (AllReadyH.nil)
        obtain ⟨fd, ft, n0, n1⟩ : ∃ fd ft : Int, (w3).cell? ⟨v3.heap.size, j * 2, none⟩ = some (.int .i64 fd) ∧ (w3).cell? ⟨v3.heap.size, j * 2 + 1, none⟩ = some (.int .i64 ft) := by
          rcases (show j = 0 ∨ j = 1 ∨ j = 2 by omega) with rfl | rfl | rfl
          · exact ⟨_, _, by rw [HN.out.cell]; rfl, by rw [HN.out.cell]; rfl⟩
          · exact ⟨_, _, by rw [HN.out.cell]; rfl, by rw [HN.out.cell]; rfl⟩
          · exact ⟨_, _, by rw [HN.out.cell]; rfl, by rw [HN.out.cell]; rfl⟩
        go_simp
        refine hK.out _ _ (⟨HM.out, trivial⟩) (fun hHeld => ?_)
        clear hK K
        try simp only [Act.put, List.setIfInBounds_toArray, List.set_cons_zero, List.set_cons_succ]
        clear n0 n1
        refine wpAnyH_ready (rs := [12]) (by kernel_rfl) (by simp) ?_
        refine AllReadyH.cons rfl (fun K hK => ?_) AllReadyH.nil
        refine step_store_part 25 _ _ _ 0 (.agg #[.int .i64 fd, .int .i64 ft]) #[.int .i64 fd, .int .i64 ft] (Blk.kp (zk0 HK) (by omega) HG.out) rfl rfl rfl rfl rfl (by rfl) (by kernel_rfl) (by simp [Value.oneCell']) (by simp) ?_; intro wS hBS hkb; simp only [setL, List.setIfInBounds_toArray, List.set_cons_zero, List.set_cons_succ] at hBS; have hka := zka HK hkb; have hlSo := HS.out.lt; (try replace HR1 := zb hka hkb HR1); (try replace HR2 := zb hka hkb HR2); (try replace HR3 := zb hka hkb HR3); (try replace HM := zb hka hkb HM); (try replace HO2 := zo hka hkb HO2); (try replace HS := Lib.hid (Src.kpg2 HS.out (by repeat (with_reducible first | exact Below.refl _ _ | refine Bel.alloc ?_ _ | refine Below.drew ?_ | refine Bel.drewN ?_ _)) hkb (by omega))); replace HG := Lib.hid hBS; replace HK := Lib.hid (Kp.own hkb (by omega) (Kp.trans HK.out hka)); have hszS := hkb.size_; have hsyS := hka.size_; (try simp only [World.size_alloc, World.size_drew, World.heap_drewN, World.size_setCell] at hszS hsyS); clear hBS hka hkb hlSo; have hlSS := HS.out.lt
        refine hK.out _ _ (⟨HM.out, trivial⟩) (fun hHeld => ?_)
        clear hK K
        try simp only [Act.put, List.setIfInBounds_toArray, List.set_cons_zero, List.set_cons_succ]
        refine wpAnyH_done (by kernel_rfl) ?_ _
        have hYl : w2.heap.size < v3.heap.size + 1 := by omega
        exact key.out _ _ _ _ _ _ hYl HR1 HR2 HR3 HM HG HO2 HS HK
    · skip
      go_simp
      go_at_call 46; refine (l01Next_c X A zs _ (by omega) _ (zsr HS)).mono ?_; rintro e w3 ⟨x3, rfl, hx3, hy3, hd3⟩; (try rw [Int.max_eq_left (by omega)] at hy3); have hkb := hd3.kp; have hka := zka HK hkb; have hlS3 := HS.out.lt; (try replace HR1 := zb hka hkb HR1); (try replace HR2 := zb hka hkb HR2); (try replace HR3 := zb hka hkb HR3); (try replace HM := zb hka hkb HM); (try replace HO2 := zo hka hkb HO2); replace HK := zt HK hka hkb; have hsz3 := hkb.size_; have hsy3 := hka.size_; (try simp only [World.size_alloc, World.size_drew, World.heap_drewN, World.size_setCell] at hsz3 hsy3); replace HS := Lib.hid hd3.src; clear hka hkb hd3 hlS3; have hlS3 := HS.out.lt
      refine hK.out _ _ (⟨HM.out, trivial⟩) (fun hHeld => ?_)
      clear hK K
      try simp only [Act.put, List.setIfInBounds_toArray, List.set_cons_zero, List.set_cons_succ]
      obtain ⟨j, rfl⟩ : ∃ j : Nat, x3 = j := ⟨x3.toNat, by omega⟩
      refine wpAnyH_ready (rs := [6, 11]) (by kernel_rfl) (by simp) ?_
      refine AllReadyH.cons rfl (fun K hK => ?_) (AllReadyH.cons rfl (fun K hK => ?_) (AllReadyH.nil))
      · skip
        go_simp
        have HN := Lib.hid (Blk.new w3 25 #[.int .i64 R2.ad, .int .i64 R2.at_, .int .i64 R2.bd, .int .i64 R2.bt, .int .i64 R2.ad, .int .i64 R2.at_])
        replace HR1 := Lib.hid (Blk.alloc (.cells #[.int .i64 R2.ad, .int .i64 R2.at_, .int .i64 R2.bd, .int .i64 R2.bt, .int .i64 R2.ad, .int .i64 R2.at_] 25) HR1.out)
        replace HR2 := Lib.hid (Blk.alloc (.cells #[.int .i64 R2.ad, .int .i64 R2.at_, .int .i64 R2.bd, .int .i64 R2.bt, .int .i64 R2.ad, .int .i64 R2.at_] 25) HR2.out)
        replace HR3 := Lib.hid (Blk.alloc (.cells #[.int .i64 R2.ad, .int .i64 R2.at_, .int .i64 R2.bd, .int .i64 R2.bt, .int .i64 R2.ad, .int .i64 R2.at_] 25) HR3.out)
        replace HM := Lib.hid (Blk.alloc (.cells #[.int .i64 R2.ad, .int .i64 R2.at_, .int .i64 R2.bd, .int .i64 R2.bt, .int .i64 R2.ad, .int .i64 R2.at_] 25) HM.out)
        replace HO2 := Lib.hid (Own.alloc (.cells #[.int .i64 R2.ad, .int .i64 R2.at_, .int .i64 R2.bd, .int .i64 R2.bt, .int .i64 R2.ad, .int .i64 R2.at_] 25) HO2.out)
        replace HS := Lib.hid (Src.alloc (.cells #[.int .i64 R2.ad, .int .i64 R2.at_, .int .i64 R2.bd, .int .i64 R2.bt, .int .i64 R2.ad, .int .i64 R2.at_] 25) HS.out)
        replace HK := Lib.hid (Kp.alloc (.cells #[.int .i64 R2.ad, .int .i64 R2.at_, .int .i64 R2.bd, .int .i64 R2.bt, .int .i64 R2.ad, .int .i64 R2.at_] 25) HK.out)
        have hlN := HN.out.lt
        refine hK.out _ _ (⟨HM.out, trivial⟩) (fun hHeld => ?_)
        clear hK K
        try simp only [Act.put, List.setIfInBounds_toArray, List.set_cons_zero, List.set_cons_succ]
        refine wpAnyH_ready (rs := [9, 11]) (by kernel_rfl) (by simp) ?_
        refine AllReadyH.cons rfl (fun K hK => ?_) (AllReadyH.cons rfl (fun K hK => ?_) (AllReadyH.nil))
        · skip
          have hj3 : j < 3 := by omega
          have hj3i : ¬ (3 : Int) ≤ j := by omega
          go_simp
          refine hK.out _ _ (⟨HM.out, trivial⟩) (fun hHeld => ?_)
          clear hK K
          try simp only [Act.put, List.setIfInBounds_toArray, List.set_cons_zero, List.set_cons_succ]
          refine wpAnyH_ready (rs := [10, 11]) (by kernel_rfl) (by simp) ?_
          refine AllReadyH.cons rfl (fun K hK => ?_) (AllReadyH.cons rfl (fun K hK => ?_) (AllReadyH.nil))
          · skip
            obtain ⟨fd, ft, n0, n1⟩ : ∃ fd ft : Int, ((w3.alloc (.cells #[.int .i64 R2.ad, .int .i64 R2.at_, .int .i64 R2.bd, .int .i64 R2.bt, .int .i64 R2.ad, .int .i64 R2.at_] 25))).cell? ⟨w3.heap.size, j * 2, none⟩ = some (.int .i64 fd) ∧ ((w3.alloc (.cells #[.int .i64 R2.ad, .int .i64 R2.at_, .int .i64 R2.bd, .int .i64 R2.bt, .int .i64 R2.ad, .int .i64 R2.at_] 25))).cell? ⟨w3.heap.size, j * 2 + 1, none⟩ = some (.int .i64 ft) := by
              rcases (show j = 0 ∨ j = 1 ∨ j = 2 by omega) with rfl | rfl | rfl
              · exact ⟨_, _, by rw [HN.out.cell]; rfl, by rw [HN.out.cell]; rfl⟩
              · exact ⟨_, _, by rw [HN.out.cell]; rfl, by rw [HN.out.cell]; rfl⟩
              · exact ⟨_, _, by rw [HN.out.cell]; rfl, by rw [HN.out.cell]; rfl⟩
            go_simp
            refine hK.out _ _ (⟨HM.out, trivial⟩) (fun hHeld => ?_)
            clear hK K
            try simp only [Act.put, List.setIfInBounds_toArray, List.set_cons_zero, List.set_cons_succ]
            clear n0 n1
            refine wpAnyH_ready (rs := [11]) (by kernel_rfl) (by simp) ?_
            refine AllReadyH.cons rfl (fun K hK => ?_) (AllReadyH.nil)
            go_simp
            have HG := Lib.hid (by have h := Blk.new (w3.alloc (.cells #[.int .i64 R2.ad, .int .i64 R2.at_, .int .i64 R2.bd, .int .i64 R2.bt, .int .i64 R2.ad, .int .i64 R2.at_] 25)) 25 #[.int .i64 0, .int .i64 0]; (try simp only [World.size_alloc] at h); exact h)
            replace HR1 := Lib.hid (Blk.alloc (.cells #[.int .i64 0, .int .i64 0] 25) HR1.out)
            replace HR2 := Lib.hid (Blk.alloc (.cells #[.int .i64 0, .int .i64 0] 25) HR2.out)
            replace HR3 := Lib.hid (Blk.alloc (.cells #[.int .i64 0, .int .i64 0] 25) HR3.out)
            replace HM := Lib.hid (Blk.alloc (.cells #[.int .i64 0, .int .i64 0] 25) HM.out)
            replace HN := Lib.hid (Blk.alloc (.cells #[.int .i64 0, .int .i64 0] 25) HN.out)
            replace HO2 := Lib.hid (Own.alloc (.cells #[.int .i64 0, .int .i64 0] 25) HO2.out)
            replace HS := Lib.hid (Src.alloc (.cells #[.int .i64 0, .int .i64 0] 25) HS.out)
            replace HK := Lib.hid (Kp.alloc (.cells #[.int .i64 0, .int .i64 0] 25) HK.out)
            have hlHG := HG.out.lt
            refine hK.out _ _ (⟨HM.out, trivial⟩) (fun hHeld => ?_)
            clear hK K
            try simp only [Act.put, List.setIfInBounds_toArray, List.set_cons_zero, List.set_cons_succ]
            refine wpAnyH_ready (rs := [12]) (by kernel_rfl) (by simp) ?_
            refine AllReadyH.cons rfl (fun K hK => ?_) AllReadyH.nil
            refine step_store_part 25 _ _ _ 0 (.agg #[.int .i64 fd, .int .i64 ft]) #[.int .i64 fd, .int .i64 ft] (Blk.kp (zk0 HK) (by omega) HG.out) rfl rfl rfl rfl rfl (by rfl) (by kernel_rfl) (by simp [Value.oneCell']) (by simp) ?_; intro wS hBS hkb; simp only [setL, List.setIfInBounds_toArray, List.set_cons_zero, List.set_cons_succ] at hBS; have hka := zka HK hkb; have hlSo := HS.out.lt; (try replace HR1 := zb hka hkb HR1); (try replace HR2 := zb hka hkb HR2); (try replace HR3 := zb hka hkb HR3); (try replace HM := zb hka hkb HM); (try replace HO2 := zo hka hkb HO2); (try replace HS := Lib.hid (Src.kpg2 HS.out (by repeat (with_reducible first | exact Below.refl _ _ | refine Bel.alloc ?_ _ | refine Below.drew ?_ | refine Bel.drewN ?_ _)) hkb (by omega))); replace HG := Lib.hid hBS; replace HK := Lib.hid (Kp.own hkb (by omega) (Kp.trans HK.out hka)); have hszS := hkb.size_; have hsyS := hka.size_; (try simp only [World.size_alloc, World.size_drew, World.heap_drewN, World.size_setCell] at hszS hsyS); clear hBS hka hkb hlSo; have hlSS := HS.out.lt
            refine hK.out _ _ (⟨HM.out, trivial⟩) (fun hHeld => ?_)
            clear hK K
            try simp only [Act.put, List.setIfInBounds_toArray, List.set_cons_zero, List.set_cons_succ]
            refine wpAnyH_done (by kernel_rfl) ?_ _
            have hYl : w2.heap.size < w3.heap.size + 1 := by omega
            exact key.out _ _ _ _ _ _ hYl HR1 HR2 HR3 HM HG HO2 HS HK
          · skip
            go_simp
            have HG := Lib.hid (by have h := Blk.new (w3.alloc (.cells #[.int .i64 R2.ad, .int .i64 R2.at_, .int .i64 R2.bd, .int .i64 R2.bt, .int .i64 R2.ad, .int .i64 R2.at_] 25)) 25 #[.int .i64 0, .int .i64 0]; (try simp only [World.size_alloc] at h); exact h)
            replace HR1 := Lib.hid (Blk.alloc (.cells #[.int .i64 0, .int .i64 0] 25) HR1.out)
            replace HR2 := Lib.hid (Blk.alloc (.cells #[.int .i64 0, .int .i64 0] 25) HR2.out)
            replace HR3 := Lib.hid (Blk.alloc (.cells #[.int .i64 0, .int .i64 0] 25) HR3.out)
            replace HM := Lib.hid (Blk.alloc (.cells #[.int .i64 0, .int .i64 0] 25) HM.out)
            replace HN := Lib.hid (Blk.alloc (.cells #[.int .i64 0, .int .i64 0] 25) HN.out)
            replace HO2 := Lib.hid (Own.alloc (.cells #[.int .i64 0, .int .i64 0] 25) HO2.out)
            replace HS := Lib.hid (Src.alloc (.cells #[.int .i64 0, .int .i64 0] 25) HS.out)
            replace HK := Lib.hid (Kp.alloc (.cells #[.int .i64 0, .int .i64 0] 25) HK.out)
            have hlHG := HG.out.lt
            refine hK.out _ _ (⟨HM.out, trivial⟩) (fun hHeld => ?_)
            clear hK K
            try simp only [Act.put, List.setIfInBounds_toArray, List.set_cons_zero, List.set_cons_succ]
            refine wpAnyH_ready (rs := [10]) (by kernel_rfl) (by simp) ?_
            refine AllReadyH.cons rfl (fun K hK => ?_) (AllReadyH.nil)
            obtain ⟨fd, ft, n0, n1⟩ : ∃ fd ft : Int, (((w3.alloc (.cells #[.int .i64 R2.ad, .int .i64 R2.at_, .int .i64 R2.bd, .int .i64 R2.bt, .int .i64 R2.ad, .int .i64 R2.at_] 25)).alloc (.cells #[.int .i64 0, .int .i64 0] 25))).cell? ⟨w3.heap.size, j * 2, none⟩ = some (.int .i64 fd) ∧ (((w3.alloc (.cells #[.int .i64 R2.ad, .int .i64 R2.at_, .int .i64 R2.bd, .int .i64 R2.bt, .int .i64 R2.ad, .int .i64 R2.at_] 25)).alloc (.cells #[.int .i64 0, .int .i64 0] 25))).cell? ⟨w3.heap.size, j * 2 + 1, none⟩ = some (.int .i64 ft) := by
              rcases (show j = 0 ∨ j = 1 ∨ j = 2 by omega) with rfl | rfl | rfl
              · exact ⟨_, _, by rw [HN.out.cell]; rfl, by rw [HN.out.cell]; rfl⟩
              · exact ⟨_, _, by rw [HN.out.cell]; rfl, by rw [HN.out.cell]; rfl⟩
              · exact ⟨_, _, by rw [HN.out.cell]; rfl, by rw [HN.out.cell]; rfl⟩
            go_simp
            refine hK.out _ _ (⟨HM.out, trivial⟩) (fun hHeld => ?_)
            clear hK K
            try simp only [Act.put, List.setIfInBounds_toArray, List.set_cons_zero, List.set_cons_succ]
            clear n0 n1
            refine wpAnyH_ready (rs := [12]) (by kernel_rfl) (by simp) ?_
            refine AllReadyH.cons rfl (fun K hK => ?_) AllReadyH.nil
            refine step_store_part 25 _ _ _ 0 (.agg #[.int .i64 fd, .int .i64 ft]) #[.int .i64 fd, .int .i64 ft] (Blk.kp (zk0 HK) (by omega) HG.out) rfl rfl rfl rfl rfl (by rfl) (by kernel_rfl) (by simp [Value.oneCell']) (by simp) ?_; intro wS hBS hkb; simp only [setL, List.setIfInBounds_toArray, List.set_cons_zero, List.set_cons_succ] at hBS; have hka := zka HK hkb; have hlSo := HS.out.lt; (try replace HR1 := zb hka hkb HR1); (try replace HR2 := zb hka hkb HR2); (try replace HR3 := zb hka hkb HR3); (try replace HM := zb hka hkb HM); (try replace HO2 := zo hka hkb HO2); (try replace HS := Lib.hid (Src.kpg2 HS.out (by repeat (with_reducible first | exact Below.refl _ _ | refine Bel.alloc ?_ _ | refine Below.drew ?_ | refine Bel.drewN ?_ _)) hkb (by omega))); replace HG := Lib.hid hBS; replace HK := Lib.hid (Kp.own hkb (by omega) (Kp.trans HK.out hka)); have hszS := hkb.size_; have hsyS := hka.size_; (try simp only [World.size_alloc, World.size_drew, World.heap_drewN, World.size_setCell] at hszS hsyS); clear hBS hka hkb hlSo; have hlSS := HS.out.lt
            refine hK.out _ _ (⟨HM.out, trivial⟩) (fun hHeld => ?_)
            clear hK K
            try simp only [Act.put, List.setIfInBounds_toArray, List.set_cons_zero, List.set_cons_succ]
            refine wpAnyH_done (by kernel_rfl) ?_ _
            have hYl : w2.heap.size < w3.heap.size + 1 := by omega
            exact key.out _ _ _ _ _ _ hYl HR1 HR2 HR3 HM HG HO2 HS HK
        · skip
          go_simp
          have HG := Lib.hid (by have h := Blk.new (w3.alloc (.cells #[.int .i64 R2.ad, .int .i64 R2.at_, .int .i64 R2.bd, .int .i64 R2.bt, .int .i64 R2.ad, .int .i64 R2.at_] 25)) 25 #[.int .i64 0, .int .i64 0]; (try simp only [World.size_alloc] at h); exact h)
          replace HR1 := Lib.hid (Blk.alloc (.cells #[.int .i64 0, .int .i64 0] 25) HR1.out)
          replace HR2 := Lib.hid (Blk.alloc (.cells #[.int .i64 0, .int .i64 0] 25) HR2.out)
          replace HR3 := Lib.hid (Blk.alloc (.cells #[.int .i64 0, .int .i64 0] 25) HR3.out)
          replace HM := Lib.hid (Blk.alloc (.cells #[.int .i64 0, .int .i64 0] 25) HM.out)
          replace HN := Lib.hid (Blk.alloc (.cells #[.int .i64 0, .int .i64 0] 25) HN.out)
          replace HO2 := Lib.hid (Own.alloc (.cells #[.int .i64 0, .int .i64 0] 25) HO2.out)
          replace HS := Lib.hid (Src.alloc (.cells #[.int .i64 0, .int .i64 0] 25) HS.out)
          replace HK := Lib.hid (Kp.alloc (.cells #[.int .i64 0, .int .i64 0] 25) HK.out)
          have hlHG := HG.out.lt
          refine hK.out _ _ (⟨HM.out, trivial⟩) (fun hHeld => ?_)
          clear hK K
          try simp only [Act.put, List.setIfInBounds_toArray, List.set_cons_zero, List.set_cons_succ]
          refine wpAnyH_ready (rs := [9]) (by kernel_rfl) (by simp) ?_
          refine AllReadyH.cons rfl (fun K hK => ?_) (AllReadyH.nil)
          have hj3 : j < 3 := by omega
          have hj3i : ¬ (3 : Int) ≤ j := by omega
          go_simp
          refine hK.out _ _ (⟨HM.out, trivial⟩) (fun hHeld => ?_)
          clear hK K
          try simp only [Act.put, List.setIfInBounds_toArray, List.set_cons_zero, List.set_cons_succ]
          refine wpAnyH_ready (rs := [10]) (by kernel_rfl) (by simp) ?_
          refine AllReadyH.cons rfl (fun K hK => ?_) (AllReadyH.nil)
          obtain ⟨fd, ft, n0, n1⟩ : ∃ fd ft : Int, (((w3.alloc (.cells #[.int .i64 R2.ad, .int .i64 R2.at_, .int .i64 R2.bd, .int .i64 R2.bt, .int .i64 R2.ad, .int .i64 R2.at_] 25)).alloc (.cells #[.int .i64 0, .int .i64 0] 25))).cell? ⟨w3.heap.size, j * 2, none⟩ = some (.int .i64 fd) ∧ (((w3.alloc (.cells #[.int .i64 R2.ad, .int .i64 R2.at_, .int .i64 R2.bd, .int .i64 R2.bt, .int .i64 R2.ad, .int .i64 R2.at_] 25)).alloc (.cells #[.int .i64 0, .int .i64 0] 25))).cell? ⟨w3.heap.size, j * 2 + 1, none⟩ = some (.int .i64 ft) := by
            rcases (show j = 0 ∨ j = 1 ∨ j = 2 by omega) with rfl | rfl | rfl
            · exact ⟨_, _, by rw [HN.out.cell]; rfl, by rw [HN.out.cell]; rfl⟩
            · exact ⟨_, _, by rw [HN.out.cell]; rfl, by rw [HN.out.cell]; rfl⟩
            · exact ⟨_, _, by rw [HN.out.cell]; rfl, by rw [HN.out.cell]; rfl⟩
          go_simp
          refine hK.out _ _ (⟨HM.out, trivial⟩) (fun hHeld => ?_)
          clear hK K
          try simp only [Act.put, List.setIfInBounds_toArray, List.set_cons_zero, List.set_cons_succ]
          clear n0 n1
          refine wpAnyH_ready (rs := [12]) (by kernel_rfl) (by simp) ?_
          refine AllReadyH.cons rfl (fun K hK => ?_) AllReadyH.nil
          refine step_store_part 25 _ _ _ 0 (.agg #[.int .i64 fd, .int .i64 ft]) #[.int .i64 fd, .int .i64 ft] (Blk.kp (zk0 HK) (by omega) HG.out) rfl rfl rfl rfl rfl (by rfl) (by kernel_rfl) (by simp [Value.oneCell']) (by simp) ?_; intro wS hBS hkb; simp only [setL, List.setIfInBounds_toArray, List.set_cons_zero, List.set_cons_succ] at hBS; have hka := zka HK hkb; have hlSo := HS.out.lt; (try replace HR1 := zb hka hkb HR1); (try replace HR2 := zb hka hkb HR2); (try replace HR3 := zb hka hkb HR3); (try replace HM := zb hka hkb HM); (try replace HO2 := zo hka hkb HO2); (try replace HS := Lib.hid (Src.kpg2 HS.out (by repeat (with_reducible first | exact Below.refl _ _ | refine Bel.alloc ?_ _ | refine Below.drew ?_ | refine Bel.drewN ?_ _)) hkb (by omega))); replace HG := Lib.hid hBS; replace HK := Lib.hid (Kp.own hkb (by omega) (Kp.trans HK.out hka)); have hszS := hkb.size_; have hsyS := hka.size_; (try simp only [World.size_alloc, World.size_drew, World.heap_drewN, World.size_setCell] at hszS hsyS); clear hBS hka hkb hlSo; have hlSS := HS.out.lt
          refine hK.out _ _ (⟨HM.out, trivial⟩) (fun hHeld => ?_)
          clear hK K
          try simp only [Act.put, List.setIfInBounds_toArray, List.set_cons_zero, List.set_cons_succ]
          refine wpAnyH_done (by kernel_rfl) ?_ _
          have hYl : w2.heap.size < w3.heap.size + 1 := by omega
          exact key.out _ _ _ _ _ _ hYl HR1 HR2 HR3 HM HG HO2 HS HK
      · skip
        go_simp
        have HG := Lib.hid (Blk.new w3 25 #[.int .i64 0, .int .i64 0])
        replace HR1 := Lib.hid (Blk.alloc (.cells #[.int .i64 0, .int .i64 0] 25) HR1.out)
        replace HR2 := Lib.hid (Blk.alloc (.cells #[.int .i64 0, .int .i64 0] 25) HR2.out)
        replace HR3 := Lib.hid (Blk.alloc (.cells #[.int .i64 0, .int .i64 0] 25) HR3.out)
        replace HM := Lib.hid (Blk.alloc (.cells #[.int .i64 0, .int .i64 0] 25) HM.out)
        replace HO2 := Lib.hid (Own.alloc (.cells #[.int .i64 0, .int .i64 0] 25) HO2.out)
        replace HS := Lib.hid (Src.alloc (.cells #[.int .i64 0, .int .i64 0] 25) HS.out)
        replace HK := Lib.hid (Kp.alloc (.cells #[.int .i64 0, .int .i64 0] 25) HK.out)
        have hlHG := HG.out.lt
        refine hK.out _ _ (⟨HM.out, trivial⟩) (fun hHeld => ?_)
        clear hK K
        try simp only [Act.put, List.setIfInBounds_toArray, List.set_cons_zero, List.set_cons_succ]
        refine wpAnyH_ready (rs := [6]) (by kernel_rfl) (by simp) ?_
        refine AllReadyH.cons rfl (fun K hK => ?_) (AllReadyH.nil)
        go_simp
        have HN := Lib.hid (by have h := Blk.new (w3.alloc (.cells #[.int .i64 0, .int .i64 0] 25)) 25 #[.int .i64 R2.ad, .int .i64 R2.at_, .int .i64 R2.bd, .int .i64 R2.bt, .int .i64 R2.ad, .int .i64 R2.at_]; (try simp only [World.size_alloc] at h); exact h)
        replace HR1 := Lib.hid (Blk.alloc (.cells #[.int .i64 R2.ad, .int .i64 R2.at_, .int .i64 R2.bd, .int .i64 R2.bt, .int .i64 R2.ad, .int .i64 R2.at_] 25) HR1.out)
        replace HR2 := Lib.hid (Blk.alloc (.cells #[.int .i64 R2.ad, .int .i64 R2.at_, .int .i64 R2.bd, .int .i64 R2.bt, .int .i64 R2.ad, .int .i64 R2.at_] 25) HR2.out)
        replace HR3 := Lib.hid (Blk.alloc (.cells #[.int .i64 R2.ad, .int .i64 R2.at_, .int .i64 R2.bd, .int .i64 R2.bt, .int .i64 R2.ad, .int .i64 R2.at_] 25) HR3.out)
        replace HM := Lib.hid (Blk.alloc (.cells #[.int .i64 R2.ad, .int .i64 R2.at_, .int .i64 R2.bd, .int .i64 R2.bt, .int .i64 R2.ad, .int .i64 R2.at_] 25) HM.out)
        replace HG := Lib.hid (Blk.alloc (.cells #[.int .i64 R2.ad, .int .i64 R2.at_, .int .i64 R2.bd, .int .i64 R2.bt, .int .i64 R2.ad, .int .i64 R2.at_] 25) HG.out)
        replace HO2 := Lib.hid (Own.alloc (.cells #[.int .i64 R2.ad, .int .i64 R2.at_, .int .i64 R2.bd, .int .i64 R2.bt, .int .i64 R2.ad, .int .i64 R2.at_] 25) HO2.out)
        replace HS := Lib.hid (Src.alloc (.cells #[.int .i64 R2.ad, .int .i64 R2.at_, .int .i64 R2.bd, .int .i64 R2.bt, .int .i64 R2.ad, .int .i64 R2.at_] 25) HS.out)
        replace HK := Lib.hid (Kp.alloc (.cells #[.int .i64 R2.ad, .int .i64 R2.at_, .int .i64 R2.bd, .int .i64 R2.bt, .int .i64 R2.ad, .int .i64 R2.at_] 25) HK.out)
        have hlN := HN.out.lt
        refine hK.out _ _ (⟨HM.out, trivial⟩) (fun hHeld => ?_)
        clear hK K
        try simp only [Act.put, List.setIfInBounds_toArray, List.set_cons_zero, List.set_cons_succ]
        refine wpAnyH_ready (rs := [9]) (by kernel_rfl) (by simp) ?_
        refine AllReadyH.cons rfl (fun K hK => ?_) (AllReadyH.nil)
        have hj3 : j < 3 := by omega
        have hj3i : ¬ (3 : Int) ≤ j := by omega
        go_simp
        refine hK.out _ _ (⟨HM.out, trivial⟩) (fun hHeld => ?_)
        clear hK K
        try simp only [Act.put, List.setIfInBounds_toArray, List.set_cons_zero, List.set_cons_succ]
        refine wpAnyH_ready (rs := [10]) (by kernel_rfl) (by simp) ?_
        refine AllReadyH.cons rfl (fun K hK => ?_) (AllReadyH.nil)
        obtain ⟨fd, ft, n0, n1⟩ : ∃ fd ft : Int, (((w3.alloc (.cells #[.int .i64 0, .int .i64 0] 25)).alloc (.cells #[.int .i64 R2.ad, .int .i64 R2.at_, .int .i64 R2.bd, .int .i64 R2.bt, .int .i64 R2.ad, .int .i64 R2.at_] 25))).cell? ⟨w3.heap.size + 1, j * 2, none⟩ = some (.int .i64 fd) ∧ (((w3.alloc (.cells #[.int .i64 0, .int .i64 0] 25)).alloc (.cells #[.int .i64 R2.ad, .int .i64 R2.at_, .int .i64 R2.bd, .int .i64 R2.bt, .int .i64 R2.ad, .int .i64 R2.at_] 25))).cell? ⟨w3.heap.size + 1, j * 2 + 1, none⟩ = some (.int .i64 ft) := by
          rcases (show j = 0 ∨ j = 1 ∨ j = 2 by omega) with rfl | rfl | rfl
          · exact ⟨_, _, by rw [HN.out.cell]; rfl, by rw [HN.out.cell]; rfl⟩
          · exact ⟨_, _, by rw [HN.out.cell]; rfl, by rw [HN.out.cell]; rfl⟩
          · exact ⟨_, _, by rw [HN.out.cell]; rfl, by rw [HN.out.cell]; rfl⟩
        go_simp
        refine hK.out _ _ (⟨HM.out, trivial⟩) (fun hHeld => ?_)
        clear hK K
        try simp only [Act.put, List.setIfInBounds_toArray, List.set_cons_zero, List.set_cons_succ]
        clear n0 n1
        refine wpAnyH_ready (rs := [12]) (by kernel_rfl) (by simp) ?_
        refine AllReadyH.cons rfl (fun K hK => ?_) AllReadyH.nil
        refine step_store_part 25 _ _ _ 0 (.agg #[.int .i64 fd, .int .i64 ft]) #[.int .i64 fd, .int .i64 ft] (Blk.kp (zk0 HK) (by omega) HG.out) rfl rfl rfl rfl rfl (by rfl) (by kernel_rfl) (by simp [Value.oneCell']) (by simp) ?_; intro wS hBS hkb; simp only [setL, List.setIfInBounds_toArray, List.set_cons_zero, List.set_cons_succ] at hBS; have hka := zka HK hkb; have hlSo := HS.out.lt; (try replace HR1 := zb hka hkb HR1); (try replace HR2 := zb hka hkb HR2); (try replace HR3 := zb hka hkb HR3); (try replace HM := zb hka hkb HM); (try replace HO2 := zo hka hkb HO2); (try replace HS := Lib.hid (Src.kpg2 HS.out (by repeat (with_reducible first | exact Below.refl _ _ | refine Bel.alloc ?_ _ | refine Below.drew ?_ | refine Bel.drewN ?_ _)) hkb (by omega))); replace HG := Lib.hid hBS; replace HK := Lib.hid (Kp.own hkb (by omega) (Kp.trans HK.out hka)); have hszS := hkb.size_; have hsyS := hka.size_; (try simp only [World.size_alloc, World.size_drew, World.heap_drewN, World.size_setCell] at hszS hsyS); clear hBS hka hkb hlSo; have hlSS := HS.out.lt
        refine hK.out _ _ (⟨HM.out, trivial⟩) (fun hHeld => ?_)
        clear hK K
        try simp only [Act.put, List.setIfInBounds_toArray, List.set_cons_zero, List.set_cons_succ]
        refine wpAnyH_done (by kernel_rfl) ?_ _
        have hYl : w2.heap.size < w3.heap.size := by omega
        exact key.out _ _ _ _ _ _ hYl HR1 HR2 HR3 HM HG HO2 HS HK
    · skip
      go_simp
      have HG := Lib.hid (Blk.new v3 25 #[.int .i64 0, .int .i64 0])
      replace HR1 := Lib.hid (Blk.alloc (.cells #[.int .i64 0, .int .i64 0] 25) HR1.out)
      replace HR2 := Lib.hid (Blk.alloc (.cells #[.int .i64 0, .int .i64 0] 25) HR2.out)
      replace HR3 := Lib.hid (Blk.alloc (.cells #[.int .i64 0, .int .i64 0] 25) HR3.out)
      replace HM := Lib.hid (Blk.alloc (.cells #[.int .i64 0, .int .i64 0] 25) HM.out)
      replace HO2 := Lib.hid (Own.alloc (.cells #[.int .i64 0, .int .i64 0] 25) HO2.out)
      replace HS := Lib.hid (Src.alloc (.cells #[.int .i64 0, .int .i64 0] 25) HS.out)
      replace HK := Lib.hid (Kp.alloc (.cells #[.int .i64 0, .int .i64 0] 25) HK.out)
      have hlHG := HG.out.lt
      refine hK.out _ _ (⟨HM.out, trivial⟩) (fun hHeld => ?_)
      clear hK K
      try simp only [Act.put, List.setIfInBounds_toArray, List.set_cons_zero, List.set_cons_succ]
      refine wpAnyH_ready (rs := [6, 8]) (by kernel_rfl) (by simp) ?_
      refine AllReadyH.cons rfl (fun K hK => ?_) (AllReadyH.cons rfl (fun K hK => ?_) (AllReadyH.nil))
      · skip
        go_simp
        have HN := Lib.hid (by have h := Blk.new (v3.alloc (.cells #[.int .i64 0, .int .i64 0] 25)) 25 #[.int .i64 R2.ad, .int .i64 R2.at_, .int .i64 R2.bd, .int .i64 R2.bt, .int .i64 R2.ad, .int .i64 R2.at_]; (try simp only [World.size_alloc] at h); exact h)
        replace HR1 := Lib.hid (Blk.alloc (.cells #[.int .i64 R2.ad, .int .i64 R2.at_, .int .i64 R2.bd, .int .i64 R2.bt, .int .i64 R2.ad, .int .i64 R2.at_] 25) HR1.out)
        replace HR2 := Lib.hid (Blk.alloc (.cells #[.int .i64 R2.ad, .int .i64 R2.at_, .int .i64 R2.bd, .int .i64 R2.bt, .int .i64 R2.ad, .int .i64 R2.at_] 25) HR2.out)
        replace HR3 := Lib.hid (Blk.alloc (.cells #[.int .i64 R2.ad, .int .i64 R2.at_, .int .i64 R2.bd, .int .i64 R2.bt, .int .i64 R2.ad, .int .i64 R2.at_] 25) HR3.out)
        replace HM := Lib.hid (Blk.alloc (.cells #[.int .i64 R2.ad, .int .i64 R2.at_, .int .i64 R2.bd, .int .i64 R2.bt, .int .i64 R2.ad, .int .i64 R2.at_] 25) HM.out)
        replace HG := Lib.hid (Blk.alloc (.cells #[.int .i64 R2.ad, .int .i64 R2.at_, .int .i64 R2.bd, .int .i64 R2.bt, .int .i64 R2.ad, .int .i64 R2.at_] 25) HG.out)
        replace HO2 := Lib.hid (Own.alloc (.cells #[.int .i64 R2.ad, .int .i64 R2.at_, .int .i64 R2.bd, .int .i64 R2.bt, .int .i64 R2.ad, .int .i64 R2.at_] 25) HO2.out)
        replace HS := Lib.hid (Src.alloc (.cells #[.int .i64 R2.ad, .int .i64 R2.at_, .int .i64 R2.bd, .int .i64 R2.bt, .int .i64 R2.ad, .int .i64 R2.at_] 25) HS.out)
        replace HK := Lib.hid (Kp.alloc (.cells #[.int .i64 R2.ad, .int .i64 R2.at_, .int .i64 R2.bd, .int .i64 R2.bt, .int .i64 R2.ad, .int .i64 R2.at_] 25) HK.out)
        have hlN := HN.out.lt
        refine hK.out _ _ (⟨HM.out, trivial⟩) (fun hHeld => ?_)
        clear hK K
        try simp only [Act.put, List.setIfInBounds_toArray, List.set_cons_zero, List.set_cons_succ]
        refine wpAnyH_ready (rs := [8]) (by kernel_rfl) (by simp) ?_
        refine AllReadyH.cons rfl (fun K hK => ?_) (AllReadyH.nil)
        go_simp
        go_at_call 46; refine (l01Next_c X A zs _ (by omega) _ (zsr HS)).mono ?_; rintro e w3 ⟨x3, rfl, hx3, hy3, hd3⟩; (try rw [Int.max_eq_left (by omega)] at hy3); have hkb := hd3.kp; have hka := zka HK hkb; have hlS3 := HS.out.lt; (try replace HR1 := zb hka hkb HR1); (try replace HR2 := zb hka hkb HR2); (try replace HR3 := zb hka hkb HR3); (try replace HM := zb hka hkb HM); (try replace HN := zb hka hkb HN); (try replace HG := zb hka hkb HG); (try replace HO2 := zo hka hkb HO2); replace HK := zt HK hka hkb; have hsz3 := hkb.size_; have hsy3 := hka.size_; (try simp only [World.size_alloc, World.size_drew, World.heap_drewN, World.size_setCell] at hsz3 hsy3); replace HS := Lib.hid hd3.src; clear hka hkb hd3 hlS3; have hlS3 := HS.out.lt
        refine hK.out _ _ (⟨HM.out, trivial⟩) (fun hHeld => ?_)
        clear hK K
        try simp only [Act.put, List.setIfInBounds_toArray, List.set_cons_zero, List.set_cons_succ]
        obtain ⟨j, rfl⟩ : ∃ j : Nat, x3 = j := ⟨x3.toNat, by omega⟩
        refine wpAnyH_ready (rs := [9]) (by kernel_rfl) (by simp) ?_
        refine AllReadyH.cons rfl (fun K hK => ?_) (AllReadyH.nil)
        have hj3 : j < 3 := by omega
        have hj3i : ¬ (3 : Int) ≤ j := by omega
        go_simp
        refine hK.out _ _ (⟨HM.out, trivial⟩) (fun hHeld => ?_)
        clear hK K
        try simp only [Act.put, List.setIfInBounds_toArray, List.set_cons_zero, List.set_cons_succ]
        refine wpAnyH_ready (rs := [10]) (by kernel_rfl) (by simp) ?_
        refine AllReadyH.cons rfl (fun K hK => ?_) (AllReadyH.nil)
        obtain ⟨fd, ft, n0, n1⟩ : ∃ fd ft : Int, (w3).cell? ⟨v3.heap.size + 1, j * 2, none⟩ = some (.int .i64 fd) ∧ (w3).cell? ⟨v3.heap.size + 1, j * 2 + 1, none⟩ = some (.int .i64 ft) := by
          rcases (show j = 0 ∨ j = 1 ∨ j = 2 by omega) with rfl | rfl | rfl
          · exact ⟨_, _, by rw [HN.out.cell]; rfl, by rw [HN.out.cell]; rfl⟩
          · exact ⟨_, _, by rw [HN.out.cell]; rfl, by rw [HN.out.cell]; rfl⟩
          · exact ⟨_, _, by rw [HN.out.cell]; rfl, by rw [HN.out.cell]; rfl⟩
        go_simp
        refine hK.out _ _ (⟨HM.out, trivial⟩) (fun hHeld => ?_)
        clear hK K
        try simp only [Act.put, List.setIfInBounds_toArray, List.set_cons_zero, List.set_cons_succ]
        clear n0 n1
        refine wpAnyH_ready (rs := [12]) (by kernel_rfl) (by simp) ?_
        refine AllReadyH.cons rfl (fun K hK => ?_) AllReadyH.nil
        refine step_store_part 25 _ _ _ 0 (.agg #[.int .i64 fd, .int .i64 ft]) #[.int .i64 fd, .int .i64 ft] (Blk.kp (zk0 HK) (by omega) HG.out) rfl rfl rfl rfl rfl (by rfl) (by kernel_rfl) (by simp [Value.oneCell']) (by simp) ?_; intro wS hBS hkb; simp only [setL, List.setIfInBounds_toArray, List.set_cons_zero, List.set_cons_succ] at hBS; have hka := zka HK hkb; have hlSo := HS.out.lt; (try replace HR1 := zb hka hkb HR1); (try replace HR2 := zb hka hkb HR2); (try replace HR3 := zb hka hkb HR3); (try replace HM := zb hka hkb HM); (try replace HO2 := zo hka hkb HO2); (try replace HS := Lib.hid (Src.kpg2 HS.out (by repeat (with_reducible first | exact Below.refl _ _ | refine Bel.alloc ?_ _ | refine Below.drew ?_ | refine Bel.drewN ?_ _)) hkb (by omega))); replace HG := Lib.hid hBS; replace HK := Lib.hid (Kp.own hkb (by omega) (Kp.trans HK.out hka)); have hszS := hkb.size_; have hsyS := hka.size_; (try simp only [World.size_alloc, World.size_drew, World.heap_drewN, World.size_setCell] at hszS hsyS); clear hBS hka hkb hlSo; have hlSS := HS.out.lt
        refine hK.out _ _ (⟨HM.out, trivial⟩) (fun hHeld => ?_)
        clear hK K
        try simp only [Act.put, List.setIfInBounds_toArray, List.set_cons_zero, List.set_cons_succ]
        refine wpAnyH_done (by kernel_rfl) ?_ _
        have hYl : w2.heap.size < v3.heap.size := by omega
        exact key.out _ _ _ _ _ _ hYl HR1 HR2 HR3 HM HG HO2 HS HK
      · skip
        go_simp
        go_at_call 46; refine (l01Next_c X A zs _ (by omega) _ (zsr HS)).mono ?_; rintro e w3 ⟨x3, rfl, hx3, hy3, hd3⟩; (try rw [Int.max_eq_left (by omega)] at hy3); have hkb := hd3.kp; have hka := zka HK hkb; have hlS3 := HS.out.lt; (try replace HR1 := zb hka hkb HR1); (try replace HR2 := zb hka hkb HR2); (try replace HR3 := zb hka hkb HR3); (try replace HM := zb hka hkb HM); (try replace HG := zb hka hkb HG); (try replace HO2 := zo hka hkb HO2); replace HK := zt HK hka hkb; have hsz3 := hkb.size_; have hsy3 := hka.size_; (try simp only [World.size_alloc, World.size_drew, World.heap_drewN, World.size_setCell] at hsz3 hsy3); replace HS := Lib.hid hd3.src; clear hka hkb hd3 hlS3; have hlS3 := HS.out.lt
        refine hK.out _ _ (⟨HM.out, trivial⟩) (fun hHeld => ?_)
        clear hK K
        try simp only [Act.put, List.setIfInBounds_toArray, List.set_cons_zero, List.set_cons_succ]
        obtain ⟨j, rfl⟩ : ∃ j : Nat, x3 = j := ⟨x3.toNat, by omega⟩
        refine wpAnyH_ready (rs := [6]) (by kernel_rfl) (by simp) ?_
        refine AllReadyH.cons rfl (fun K hK => ?_) (AllReadyH.nil)
        go_simp
        have HN := Lib.hid (Blk.new w3 25 #[.int .i64 R2.ad, .int .i64 R2.at_, .int .i64 R2.bd, .int .i64 R2.bt, .int .i64 R2.ad, .int .i64 R2.at_])
        replace HR1 := Lib.hid (Blk.alloc (.cells #[.int .i64 R2.ad, .int .i64 R2.at_, .int .i64 R2.bd, .int .i64 R2.bt, .int .i64 R2.ad, .int .i64 R2.at_] 25) HR1.out)
        replace HR2 := Lib.hid (Blk.alloc (.cells #[.int .i64 R2.ad, .int .i64 R2.at_, .int .i64 R2.bd, .int .i64 R2.bt, .int .i64 R2.ad, .int .i64 R2.at_] 25) HR2.out)
        replace HR3 := Lib.hid (Blk.alloc (.cells #[.int .i64 R2.ad, .int .i64 R2.at_, .int .i64 R2.bd, .int .i64 R2.bt, .int .i64 R2.ad, .int .i64 R2.at_] 25) HR3.out)
        replace HM := Lib.hid (Blk.alloc (.cells #[.int .i64 R2.ad, .int .i64 R2.at_, .int .i64 R2.bd, .int .i64 R2.bt, .int .i64 R2.ad, .int .i64 R2.at_] 25) HM.out)
        replace HG := Lib.hid (Blk.alloc (.cells #[.int .i64 R2.ad, .int .i64 R2.at_, .int .i64 R2.bd, .int .i64 R2.bt, .int .i64 R2.ad, .int .i64 R2.at_] 25) HG.out)
        replace HO2 := Lib.hid (Own.alloc (.cells #[.int .i64 R2.ad, .int .i64 R2.at_, .int .i64 R2.bd, .int .i64 R2.bt, .int .i64 R2.ad, .int .i64 R2.at_] 25) HO2.out)
        replace HS := Lib.hid (Src.alloc (.cells #[.int .i64 R2.ad, .int .i64 R2.at_, .int .i64 R2.bd, .int .i64 R2.bt, .int .i64 R2.ad, .int .i64 R2.at_] 25) HS.out)
        replace HK := Lib.hid (Kp.alloc (.cells #[.int .i64 R2.ad, .int .i64 R2.at_, .int .i64 R2.bd, .int .i64 R2.bt, .int .i64 R2.ad, .int .i64 R2.at_] 25) HK.out)
        have hlN := HN.out.lt
        refine hK.out _ _ (⟨HM.out, trivial⟩) (fun hHeld => ?_)
        clear hK K
        try simp only [Act.put, List.setIfInBounds_toArray, List.set_cons_zero, List.set_cons_succ]
        refine wpAnyH_ready (rs := [9]) (by kernel_rfl) (by simp) ?_
        refine AllReadyH.cons rfl (fun K hK => ?_) (AllReadyH.nil)
        have hj3 : j < 3 := by omega
        have hj3i : ¬ (3 : Int) ≤ j := by omega
        go_simp
        refine hK.out _ _ (⟨HM.out, trivial⟩) (fun hHeld => ?_)
        clear hK K
        try simp only [Act.put, List.setIfInBounds_toArray, List.set_cons_zero, List.set_cons_succ]
        refine wpAnyH_ready (rs := [10]) (by kernel_rfl) (by simp) ?_
        refine AllReadyH.cons rfl (fun K hK => ?_) (AllReadyH.nil)
        obtain ⟨fd, ft, n0, n1⟩ : ∃ fd ft : Int, ((w3.alloc (.cells #[.int .i64 R2.ad, .int .i64 R2.at_, .int .i64 R2.bd, .int .i64 R2.bt, .int .i64 R2.ad, .int .i64 R2.at_] 25))).cell? ⟨w3.heap.size, j * 2, none⟩ = some (.int .i64 fd) ∧ ((w3.alloc (.cells #[.int .i64 R2.ad, .int .i64 R2.at_, .int .i64 R2.bd, .int .i64 R2.bt, .int .i64 R2.ad, .int .i64 R2.at_] 25))).cell? ⟨w3.heap.size, j * 2 + 1, none⟩ = some (.int .i64 ft) := by
          rcases (show j = 0 ∨ j = 1 ∨ j = 2 by omega) with rfl | rfl | rfl
          · exact ⟨_, _, by rw [HN.out.cell]; rfl, by rw [HN.out.cell]; rfl⟩
          · exact ⟨_, _, by rw [HN.out.cell]; rfl, by rw [HN.out.cell]; rfl⟩
          · exact ⟨_, _, by rw [HN.out.cell]; rfl, by rw [HN.out.cell]; rfl⟩
        go_simp
        refine hK.out _ _ (⟨HM.out, trivial⟩) (fun hHeld => ?_)
        clear hK K
        try simp only [Act.put, List.setIfInBounds_toArray, List.set_cons_zero, List.set_cons_succ]
        clear n0 n1
        refine wpAnyH_ready (rs := [12]) (by kernel_rfl) (by simp) ?_
        refine AllReadyH.cons rfl (fun K hK => ?_) AllReadyH.nil
        refine step_store_part 25 _ _ _ 0 (.agg #[.int .i64 fd, .int .i64 ft]) #[.int .i64 fd, .int .i64 ft] (Blk.kp (zk0 HK) (by omega) HG.out) rfl rfl rfl rfl rfl (by rfl) (by kernel_rfl) (by simp [Value.oneCell']) (by simp) ?_; intro wS hBS hkb; simp only [setL, List.setIfInBounds_toArray, List.set_cons_zero, List.set_cons_succ] at hBS; have hka := zka HK hkb; have hlSo := HS.out.lt; (try replace HR1 := zb hka hkb HR1); (try replace HR2 := zb hka hkb HR2); (try replace HR3 := zb hka hkb HR3); (try replace HM := zb hka hkb HM); (try replace HO2 := zo hka hkb HO2); (try replace HS := Lib.hid (Src.kpg2 HS.out (by repeat (with_reducible first | exact Below.refl _ _ | refine Bel.alloc ?_ _ | refine Below.drew ?_ | refine Bel.drewN ?_ _)) hkb (by omega))); replace HG := Lib.hid hBS; replace HK := Lib.hid (Kp.own hkb (by omega) (Kp.trans HK.out hka)); have hszS := hkb.size_; have hsyS := hka.size_; (try simp only [World.size_alloc, World.size_drew, World.heap_drewN, World.size_setCell] at hszS hsyS); clear hBS hka hkb hlSo; have hlSS := HS.out.lt
        refine hK.out _ _ (⟨HM.out, trivial⟩) (fun hHeld => ?_)
        clear hK K
        try simp only [Act.put, List.setIfInBounds_toArray, List.set_cons_zero, List.set_cons_succ]
        refine wpAnyH_done (by kernel_rfl) ?_ _
        have hYl : w2.heap.size < v3.heap.size := by omega
        exact key.out _ _ _ _ _ _ hYl HR1 HR2 HR3 HM HG HO2 HS HK
  · intro W3 Y3 Nb3 fd3 ft3 j3 hY3 HR1 HR2 HR3 HM HG HO2 HS HK
    have hlG := HG.out.lt
    go_upto_region 4 with (fail)
    have hlV := HM.out.lt
    have hlV2 := HG.out.lt
    refine wp_region_held_drew (S := fun W => Blk W w2.heap.size 32 #[.int .i64 R2.ch.dg, .int .i64 R2.ch.tn, .string R2.ch.nm, .slice (some ⟨g2, 0, none⟩) R2.ch.zs.length c2, .int .i64 R2.ch.wd, .int .i64 R2.ch.lf, .int .i64 R2.ch.rt, .int .i64 R2.ad, .int .i64 R2.at_, .int .i64 R2.bd, .int .i64 R2.bt, .int .i64 R2.cd, .int .i64 R2.ct, .int .i64 R2.dd, .int .i64 R2.dt, .int .i64 R2.ey, .int .i64 R2.bo] ∧ True) (by kernel_rfl) (⟨HM.out.drew, trivial⟩) (fun hHeld => ?_)
    replace HR1 := Lib.hid HR1.out.drew
    replace HR2 := Lib.hid HR2.out.drew
    replace HR3 := Lib.hid HR3.out.drew
    replace HM := Lib.hid HM.out.drew
    replace HG := Lib.hid HG.out.drew
    replace HO2 := Lib.hid HO2.out.drew
    replace HS := Lib.hid HS.out.drew
    replace HK := Lib.hid HK.out.drew
    have hsd : (W3).drew.heap.size = (W3).heap.size := rfl
    rw [← hsd] at hlV hlV2
    clear hsd
    generalize (W3).drew = v4 at HR1 HR2 HR3 HM HG HO2 HS HK hHeld hlV hlV2 ⊢
    refine wpAnyH_take (i := 0) (v := (.pointer (some ⟨w2.heap.size, 11, none⟩))) rfl (by kernel_rfl) (by kernel_rfl) (by kernel_rfl) (fun _ _ _ h => h) (Or.inl ⟨by rfl, fun w _ => by simp [go_sem, execOp]⟩) hHeld ?_
    simp only [Act.put, List.getElem_toArray, List.getElem_cons_succ, List.getElem_cons_zero, List.setIfInBounds_toArray, List.set_cons_zero, List.set_cons_succ]
    refine wpAnyH_take (i := 1) (v := (.agg #[.int .i64 R2.cd, .int .i64 R2.ct])) rfl (by kernel_rfl) (by kernel_rfl) (by kernel_rfl) (fun _ _ _ h => h) (Or.inl ⟨by rfl, fun w' h => by have q0 := h.1.cell 11; have q1 := h.1.cell 12; simp [go_sem, execOp, q0, q1]⟩) hHeld ?_
    simp only [Act.put, List.getElem_toArray, List.getElem_cons_succ, List.getElem_cons_zero, List.setIfInBounds_toArray, List.set_cons_zero, List.set_cons_succ]
    refine wpAnyH_take (i := 2) (v := (.pointer (some ⟨w2.heap.size, 13, none⟩))) rfl (by kernel_rfl) (by kernel_rfl) (by kernel_rfl) (fun _ _ _ h => h) (Or.inl ⟨by rfl, fun w _ => by simp [go_sem, execOp]⟩) hHeld ?_
    simp only [Act.put, List.getElem_toArray, List.getElem_cons_succ, List.getElem_cons_zero, List.setIfInBounds_toArray, List.set_cons_zero, List.set_cons_succ]
    refine wpAnyH_take (i := 3) (v := (.agg #[.int .i64 R2.dd, .int .i64 R2.dt])) rfl (by kernel_rfl) (by kernel_rfl) (by kernel_rfl) (fun _ _ _ h => h) (Or.inl ⟨by rfl, fun w' h => by have q0 := h.1.cell 13; have q1 := h.1.cell 14; simp [go_sem, execOp, q0, q1]⟩) hHeld ?_
    simp only [Act.put, List.getElem_toArray, List.getElem_cons_succ, List.getElem_cons_zero, List.setIfInBounds_toArray, List.set_cons_zero, List.set_cons_succ]
    refine wpAnyH_take (i := 4) (v := (.pointer (some ⟨w2.heap.size, 13, none⟩))) rfl (by kernel_rfl) (by kernel_rfl) (by kernel_rfl) (fun _ _ _ h => h) (Or.inl ⟨by rfl, fun w _ => by simp [go_sem, execOp]⟩) hHeld ?_
    simp only [Act.put, List.getElem_toArray, List.getElem_cons_succ, List.getElem_cons_zero, List.setIfInBounds_toArray, List.set_cons_zero, List.set_cons_succ]
    refine wpAnyH_take (i := 5) (v := (.agg #[.int .i64 R2.dd, .int .i64 R2.dt])) rfl (by kernel_rfl) (by kernel_rfl) (by kernel_rfl) (fun _ _ _ h => h) (Or.inl ⟨by rfl, fun w' h => by have q0 := h.1.cell 13; have q1 := h.1.cell 14; simp [go_sem, execOp, q0, q1]⟩) hHeld ?_
    simp only [Act.put, List.getElem_toArray, List.getElem_cons_succ, List.getElem_cons_zero, List.setIfInBounds_toArray, List.set_cons_zero, List.set_cons_succ]
    refine wpAnyH_take (i := 7) (v := (.pointer (some ⟨X, 0, none⟩))) rfl (by kernel_rfl) (by kernel_rfl) (by kernel_rfl) (fun _ _ _ h => h) (Or.inl ⟨by rfl, fun w _ => by simp [go_sem, execOp]⟩) hHeld ?_
    simp only [Act.put, List.getElem_toArray, List.getElem_cons_succ, List.getElem_cons_zero, List.setIfInBounds_toArray, List.set_cons_zero, List.set_cons_succ]
    apply cut_P
    · intro key
      refine wpAnyH_ready (rs := [6, 8, 11]) (by kernel_rfl) (by simp) ?_
      refine AllReadyH.cons rfl (fun K hK => ?_) (AllReadyH.cons rfl (fun K hK => ?_) (AllReadyH.cons rfl (fun K hK => ?_) (AllReadyH.nil)))
      · skip
        go_simp
        have HN := Lib.hid (Blk.new v4 25 #[.int .i64 R2.cd, .int .i64 R2.ct, .int .i64 R2.dd, .int .i64 R2.dt, .int .i64 R2.dd, .int .i64 R2.dt])
        replace HR1 := Lib.hid (Blk.alloc (.cells #[.int .i64 R2.cd, .int .i64 R2.ct, .int .i64 R2.dd, .int .i64 R2.dt, .int .i64 R2.dd, .int .i64 R2.dt] 25) HR1.out)
        replace HR2 := Lib.hid (Blk.alloc (.cells #[.int .i64 R2.cd, .int .i64 R2.ct, .int .i64 R2.dd, .int .i64 R2.dt, .int .i64 R2.dd, .int .i64 R2.dt] 25) HR2.out)
        replace HR3 := Lib.hid (Blk.alloc (.cells #[.int .i64 R2.cd, .int .i64 R2.ct, .int .i64 R2.dd, .int .i64 R2.dt, .int .i64 R2.dd, .int .i64 R2.dt] 25) HR3.out)
        replace HM := Lib.hid (Blk.alloc (.cells #[.int .i64 R2.cd, .int .i64 R2.ct, .int .i64 R2.dd, .int .i64 R2.dt, .int .i64 R2.dd, .int .i64 R2.dt] 25) HM.out)
        replace HG := Lib.hid (Blk.alloc (.cells #[.int .i64 R2.cd, .int .i64 R2.ct, .int .i64 R2.dd, .int .i64 R2.dt, .int .i64 R2.dd, .int .i64 R2.dt] 25) HG.out)
        replace HO2 := Lib.hid (Own.alloc (.cells #[.int .i64 R2.cd, .int .i64 R2.ct, .int .i64 R2.dd, .int .i64 R2.dt, .int .i64 R2.dd, .int .i64 R2.dt] 25) HO2.out)
        replace HS := Lib.hid (Src.alloc (.cells #[.int .i64 R2.cd, .int .i64 R2.ct, .int .i64 R2.dd, .int .i64 R2.dt, .int .i64 R2.dd, .int .i64 R2.dt] 25) HS.out)
        replace HK := Lib.hid (Kp.alloc (.cells #[.int .i64 R2.cd, .int .i64 R2.ct, .int .i64 R2.dd, .int .i64 R2.dt, .int .i64 R2.dd, .int .i64 R2.dt] 25) HK.out)
        have hlN := HN.out.lt
        refine hK.out _ _ (⟨HM.out, trivial⟩) (fun hHeld => ?_)
        clear hK K
        try simp only [Act.put, List.setIfInBounds_toArray, List.set_cons_zero, List.set_cons_succ]
        refine wpAnyH_ready (rs := [8, 11]) (by kernel_rfl) (by simp) ?_
        refine AllReadyH.cons rfl (fun K hK => ?_) (AllReadyH.cons rfl (fun K hK => ?_) (AllReadyH.nil))
        · skip
          go_simp
          go_at_call 46; refine (l01Next_c X A zs _ (by omega) _ (zsr HS)).mono ?_; rintro e w4 ⟨x4, rfl, hx4, hy4, hd4⟩; (try rw [Int.max_eq_left (by omega)] at hy4); have hkb := hd4.kp; have hka := zka HK hkb; have hlS4 := HS.out.lt; (try replace HR1 := zb hka hkb HR1); (try replace HR2 := zb hka hkb HR2); (try replace HR3 := zb hka hkb HR3); (try replace HM := zb hka hkb HM); (try replace HG := zb hka hkb HG); (try replace HN := zb hka hkb HN); (try replace HO2 := zo hka hkb HO2); replace HK := zt HK hka hkb; have hsz4 := hkb.size_; have hsy4 := hka.size_; (try simp only [World.size_alloc, World.size_drew, World.heap_drewN, World.size_setCell] at hsz4 hsy4); replace HS := Lib.hid hd4.src; clear hka hkb hd4 hlS4; have hlS4 := HS.out.lt
          refine hK.out _ _ (⟨HM.out, trivial⟩) (fun hHeld => ?_)
          clear hK K
          try simp only [Act.put, List.setIfInBounds_toArray, List.set_cons_zero, List.set_cons_succ]
          obtain ⟨j, rfl⟩ : ∃ j : Nat, x4 = j := ⟨x4.toNat, by omega⟩
          refine wpAnyH_ready (rs := [9, 11]) (by kernel_rfl) (by simp) ?_
          refine AllReadyH.cons rfl (fun K hK => ?_) (AllReadyH.cons rfl (fun K hK => ?_) (AllReadyH.nil))
          · skip
            have hj3 : j < 3 := by omega
            have hj3i : ¬ (3 : Int) ≤ j := by omega
            go_simp
            refine hK.out _ _ (⟨HM.out, trivial⟩) (fun hHeld => ?_)
            clear hK K
            try simp only [Act.put, List.setIfInBounds_toArray, List.set_cons_zero, List.set_cons_succ]
            refine wpAnyH_ready (rs := [10, 11]) (by kernel_rfl) (by simp) ?_
            refine AllReadyH.cons rfl (fun K hK => ?_) (AllReadyH.cons rfl (fun K hK => ?_) (AllReadyH.nil))
            · skip
              obtain ⟨fd, ft, n0, n1⟩ : ∃ fd ft : Int, (w4).cell? ⟨v4.heap.size, j * 2, none⟩ = some (.int .i64 fd) ∧ (w4).cell? ⟨v4.heap.size, j * 2 + 1, none⟩ = some (.int .i64 ft) := by
                rcases (show j = 0 ∨ j = 1 ∨ j = 2 by omega) with rfl | rfl | rfl
                · exact ⟨_, _, by rw [HN.out.cell]; rfl, by rw [HN.out.cell]; rfl⟩
                · exact ⟨_, _, by rw [HN.out.cell]; rfl, by rw [HN.out.cell]; rfl⟩
                · exact ⟨_, _, by rw [HN.out.cell]; rfl, by rw [HN.out.cell]; rfl⟩
              go_simp
              refine hK.out _ _ (⟨HM.out, trivial⟩) (fun hHeld => ?_)
              clear hK K
              try simp only [Act.put, List.setIfInBounds_toArray, List.set_cons_zero, List.set_cons_succ]
              clear n0 n1
              refine wpAnyH_ready (rs := [11]) (by kernel_rfl) (by simp) ?_
              refine AllReadyH.cons rfl (fun K hK => ?_) (AllReadyH.nil)
              go_simp
              have HG2 := Lib.hid (Blk.new w4 25 #[.int .i64 0, .int .i64 0])
              replace HR1 := Lib.hid (Blk.alloc (.cells #[.int .i64 0, .int .i64 0] 25) HR1.out)
              replace HR2 := Lib.hid (Blk.alloc (.cells #[.int .i64 0, .int .i64 0] 25) HR2.out)
              replace HR3 := Lib.hid (Blk.alloc (.cells #[.int .i64 0, .int .i64 0] 25) HR3.out)
              replace HM := Lib.hid (Blk.alloc (.cells #[.int .i64 0, .int .i64 0] 25) HM.out)
              replace HG := Lib.hid (Blk.alloc (.cells #[.int .i64 0, .int .i64 0] 25) HG.out)
              replace HN := Lib.hid (Blk.alloc (.cells #[.int .i64 0, .int .i64 0] 25) HN.out)
              replace HO2 := Lib.hid (Own.alloc (.cells #[.int .i64 0, .int .i64 0] 25) HO2.out)
              replace HS := Lib.hid (Src.alloc (.cells #[.int .i64 0, .int .i64 0] 25) HS.out)
              replace HK := Lib.hid (Kp.alloc (.cells #[.int .i64 0, .int .i64 0] 25) HK.out)
              have hlHG2 := HG2.out.lt
              refine hK.out _ _ (⟨HM.out, trivial⟩) (fun hHeld => ?_)
              clear hK K
              try simp only [Act.put, List.setIfInBounds_toArray, List.set_cons_zero, List.set_cons_succ]
              refine wpAnyH_ready (rs := [12]) (by kernel_rfl) (by simp) ?_
              refine AllReadyH.cons rfl (fun K hK => ?_) AllReadyH.nil
              refine step_store_part 25 _ _ _ 0 (.agg #[.int .i64 fd, .int .i64 ft]) #[.int .i64 fd, .int .i64 ft] (Blk.kp (zk0 HK) (by omega) HG2.out) rfl rfl rfl rfl rfl (by rfl) (by kernel_rfl) (by simp [Value.oneCell']) (by simp) ?_; intro wS hBS hkb; simp only [setL, List.setIfInBounds_toArray, List.set_cons_zero, List.set_cons_succ] at hBS; have hka := zka HK hkb; have hlSo := HS.out.lt; (try replace HR1 := zb hka hkb HR1); (try replace HR2 := zb hka hkb HR2); (try replace HR3 := zb hka hkb HR3); (try replace HM := zb hka hkb HM); (try replace HG := zb hka hkb HG); (try replace HO2 := zo hka hkb HO2); (try replace HS := Lib.hid (Src.kpg2 HS.out (by repeat (with_reducible first | exact Below.refl _ _ | refine Bel.alloc ?_ _ | refine Below.drew ?_ | refine Bel.drewN ?_ _)) hkb (by omega))); replace HG2 := Lib.hid hBS; replace HK := Lib.hid (Kp.own hkb (by omega) (Kp.trans HK.out hka)); have hszS := hkb.size_; have hsyS := hka.size_; (try simp only [World.size_alloc, World.size_drew, World.heap_drewN, World.size_setCell] at hszS hsyS); clear hBS hka hkb hlSo; have hlSS := HS.out.lt
              refine hK.out _ _ (⟨HM.out, trivial⟩) (fun hHeld => ?_)
              clear hK K
              try simp only [Act.put, List.setIfInBounds_toArray, List.set_cons_zero, List.set_cons_succ]
              refine wpAnyH_done (by kernel_rfl) ?_ _
              have hYl : w2.heap.size < w4.heap.size ∧ Y3 < w4.heap.size := by omega
              generalize v4.heap.size = Nb
              generalize w4.heap.size = Y at HG2 hYl ⊢
              revert HK; revert HS; revert HO2; revert HG2; revert HG; revert HM; revert HR3; revert HR2; revert HR1; revert hYl
              generalize wS = W
              generalize j = jj
              revert jj; revert ft; revert fd; revert Nb; revert Y; revert W
              exact key.out
            · skip
              go_simp
              have HG2 := Lib.hid (Blk.new w4 25 #[.int .i64 0, .int .i64 0])
              replace HR1 := Lib.hid (Blk.alloc (.cells #[.int .i64 0, .int .i64 0] 25) HR1.out)
              replace HR2 := Lib.hid (Blk.alloc (.cells #[.int .i64 0, .int .i64 0] 25) HR2.out)
              replace HR3 := Lib.hid (Blk.alloc (.cells #[.int .i64 0, .int .i64 0] 25) HR3.out)
              replace HM := Lib.hid (Blk.alloc (.cells #[.int .i64 0, .int .i64 0] 25) HM.out)
              replace HG := Lib.hid (Blk.alloc (.cells #[.int .i64 0, .int .i64 0] 25) HG.out)
              replace HN := Lib.hid (Blk.alloc (.cells #[.int .i64 0, .int .i64 0] 25) HN.out)
              replace HO2 := Lib.hid (Own.alloc (.cells #[.int .i64 0, .int .i64 0] 25) HO2.out)
              replace HS := Lib.hid (Src.alloc (.cells #[.int .i64 0, .int .i64 0] 25) HS.out)
              replace HK := Lib.hid (Kp.alloc (.cells #[.int .i64 0, .int .i64 0] 25) HK.out)
              have hlHG2 := HG2.out.lt
              refine hK.out _ _ (⟨HM.out, trivial⟩) (fun hHeld => ?_)
              clear hK K
              try simp only [Act.put, List.setIfInBounds_toArray, List.set_cons_zero, List.set_cons_succ]
              refine wpAnyH_ready (rs := [10]) (by kernel_rfl) (by simp) ?_
              refine AllReadyH.cons rfl (fun K hK => ?_) (AllReadyH.nil)
              obtain ⟨fd, ft, n0, n1⟩ : ∃ fd ft : Int, ((w4.alloc (.cells #[.int .i64 0, .int .i64 0] 25))).cell? ⟨v4.heap.size, j * 2, none⟩ = some (.int .i64 fd) ∧ ((w4.alloc (.cells #[.int .i64 0, .int .i64 0] 25))).cell? ⟨v4.heap.size, j * 2 + 1, none⟩ = some (.int .i64 ft) := by
                rcases (show j = 0 ∨ j = 1 ∨ j = 2 by omega) with rfl | rfl | rfl
                · exact ⟨_, _, by rw [HN.out.cell]; rfl, by rw [HN.out.cell]; rfl⟩
                · exact ⟨_, _, by rw [HN.out.cell]; rfl, by rw [HN.out.cell]; rfl⟩
                · exact ⟨_, _, by rw [HN.out.cell]; rfl, by rw [HN.out.cell]; rfl⟩
              go_simp
              refine hK.out _ _ (⟨HM.out, trivial⟩) (fun hHeld => ?_)
              clear hK K
              try simp only [Act.put, List.setIfInBounds_toArray, List.set_cons_zero, List.set_cons_succ]
              clear n0 n1
              refine wpAnyH_ready (rs := [12]) (by kernel_rfl) (by simp) ?_
              refine AllReadyH.cons rfl (fun K hK => ?_) AllReadyH.nil
              refine step_store_part 25 _ _ _ 0 (.agg #[.int .i64 fd, .int .i64 ft]) #[.int .i64 fd, .int .i64 ft] (Blk.kp (zk0 HK) (by omega) HG2.out) rfl rfl rfl rfl rfl (by rfl) (by kernel_rfl) (by simp [Value.oneCell']) (by simp) ?_; intro wS hBS hkb; simp only [setL, List.setIfInBounds_toArray, List.set_cons_zero, List.set_cons_succ] at hBS; have hka := zka HK hkb; have hlSo := HS.out.lt; (try replace HR1 := zb hka hkb HR1); (try replace HR2 := zb hka hkb HR2); (try replace HR3 := zb hka hkb HR3); (try replace HM := zb hka hkb HM); (try replace HG := zb hka hkb HG); (try replace HO2 := zo hka hkb HO2); (try replace HS := Lib.hid (Src.kpg2 HS.out (by repeat (with_reducible first | exact Below.refl _ _ | refine Bel.alloc ?_ _ | refine Below.drew ?_ | refine Bel.drewN ?_ _)) hkb (by omega))); replace HG2 := Lib.hid hBS; replace HK := Lib.hid (Kp.own hkb (by omega) (Kp.trans HK.out hka)); have hszS := hkb.size_; have hsyS := hka.size_; (try simp only [World.size_alloc, World.size_drew, World.heap_drewN, World.size_setCell] at hszS hsyS); clear hBS hka hkb hlSo; have hlSS := HS.out.lt
              refine hK.out _ _ (⟨HM.out, trivial⟩) (fun hHeld => ?_)
              clear hK K
              try simp only [Act.put, List.setIfInBounds_toArray, List.set_cons_zero, List.set_cons_succ]
              refine wpAnyH_done (by kernel_rfl) ?_ _
              have hYl : w2.heap.size < w4.heap.size ∧ Y3 < w4.heap.size := by omega
              exact key.out _ _ _ _ _ _ hYl HR1 HR2 HR3 HM HG HG2 HO2 HS HK
          · skip
            go_simp
            have HG2 := Lib.hid (Blk.new w4 25 #[.int .i64 0, .int .i64 0])
            replace HR1 := Lib.hid (Blk.alloc (.cells #[.int .i64 0, .int .i64 0] 25) HR1.out)
            replace HR2 := Lib.hid (Blk.alloc (.cells #[.int .i64 0, .int .i64 0] 25) HR2.out)
            replace HR3 := Lib.hid (Blk.alloc (.cells #[.int .i64 0, .int .i64 0] 25) HR3.out)
            replace HM := Lib.hid (Blk.alloc (.cells #[.int .i64 0, .int .i64 0] 25) HM.out)
            replace HG := Lib.hid (Blk.alloc (.cells #[.int .i64 0, .int .i64 0] 25) HG.out)
            replace HN := Lib.hid (Blk.alloc (.cells #[.int .i64 0, .int .i64 0] 25) HN.out)
            replace HO2 := Lib.hid (Own.alloc (.cells #[.int .i64 0, .int .i64 0] 25) HO2.out)
            replace HS := Lib.hid (Src.alloc (.cells #[.int .i64 0, .int .i64 0] 25) HS.out)
            replace HK := Lib.hid (Kp.alloc (.cells #[.int .i64 0, .int .i64 0] 25) HK.out)
            have hlHG2 := HG2.out.lt
            refine hK.out _ _ (⟨HM.out, trivial⟩) (fun hHeld => ?_)
            clear hK K
            try simp only [Act.put, List.setIfInBounds_toArray, List.set_cons_zero, List.set_cons_succ]
            refine wpAnyH_ready (rs := [9]) (by kernel_rfl) (by simp) ?_
            refine AllReadyH.cons rfl (fun K hK => ?_) (AllReadyH.nil)
            have hj3 : j < 3 := by omega
            have hj3i : ¬ (3 : Int) ≤ j := by omega
            go_simp
            refine hK.out _ _ (⟨HM.out, trivial⟩) (fun hHeld => ?_)
            clear hK K
            try simp only [Act.put, List.setIfInBounds_toArray, List.set_cons_zero, List.set_cons_succ]
            refine wpAnyH_ready (rs := [10]) (by kernel_rfl) (by simp) ?_
            refine AllReadyH.cons rfl (fun K hK => ?_) (AllReadyH.nil)
            obtain ⟨fd, ft, n0, n1⟩ : ∃ fd ft : Int, ((w4.alloc (.cells #[.int .i64 0, .int .i64 0] 25))).cell? ⟨v4.heap.size, j * 2, none⟩ = some (.int .i64 fd) ∧ ((w4.alloc (.cells #[.int .i64 0, .int .i64 0] 25))).cell? ⟨v4.heap.size, j * 2 + 1, none⟩ = some (.int .i64 ft) := by
              rcases (show j = 0 ∨ j = 1 ∨ j = 2 by omega) with rfl | rfl | rfl
              · exact ⟨_, _, by rw [HN.out.cell]; rfl, by rw [HN.out.cell]; rfl⟩
              · exact ⟨_, _, by rw [HN.out.cell]; rfl, by rw [HN.out.cell]; rfl⟩
              · exact ⟨_, _, by rw [HN.out.cell]; rfl, by rw [HN.out.cell]; rfl⟩
            go_simp
            refine hK.out _ _ (⟨HM.out, trivial⟩) (fun hHeld => ?_)
            clear hK K
            try simp only [Act.put, List.setIfInBounds_toArray, List.set_cons_zero, List.set_cons_succ]
            clear n0 n1
            refine wpAnyH_ready (rs := [12]) (by kernel_rfl) (by simp) ?_
            refine AllReadyH.cons rfl (fun K hK => ?_) AllReadyH.nil
            refine step_store_part 25 _ _ _ 0 (.agg #[.int .i64 fd, .int .i64 ft]) #[.int .i64 fd, .int .i64 ft] (Blk.kp (zk0 HK) (by omega) HG2.out) rfl rfl rfl rfl rfl (by rfl) (by kernel_rfl) (by simp [Value.oneCell']) (by simp) ?_; intro wS hBS hkb; simp only [setL, List.setIfInBounds_toArray, List.set_cons_zero, List.set_cons_succ] at hBS; have hka := zka HK hkb; have hlSo := HS.out.lt; (try replace HR1 := zb hka hkb HR1); (try replace HR2 := zb hka hkb HR2); (try replace HR3 := zb hka hkb HR3); (try replace HM := zb hka hkb HM); (try replace HG := zb hka hkb HG); (try replace HO2 := zo hka hkb HO2); (try replace HS := Lib.hid (Src.kpg2 HS.out (by repeat (with_reducible first | exact Below.refl _ _ | refine Bel.alloc ?_ _ | refine Below.drew ?_ | refine Bel.drewN ?_ _)) hkb (by omega))); replace HG2 := Lib.hid hBS; replace HK := Lib.hid (Kp.own hkb (by omega) (Kp.trans HK.out hka)); have hszS := hkb.size_; have hsyS := hka.size_; (try simp only [World.size_alloc, World.size_drew, World.heap_drewN, World.size_setCell] at hszS hsyS); clear hBS hka hkb hlSo; have hlSS := HS.out.lt
            refine hK.out _ _ (⟨HM.out, trivial⟩) (fun hHeld => ?_)
            clear hK K
            try simp only [Act.put, List.setIfInBounds_toArray, List.set_cons_zero, List.set_cons_succ]
            refine wpAnyH_done (by kernel_rfl) ?_ _
            have hYl : w2.heap.size < w4.heap.size ∧ Y3 < w4.heap.size := by omega
            exact key.out _ _ _ _ _ _ hYl HR1 HR2 HR3 HM HG HG2 HO2 HS HK
        · skip
          go_simp
          have HG2 := Lib.hid (by have h := Blk.new (v4.alloc (.cells #[.int .i64 R2.cd, .int .i64 R2.ct, .int .i64 R2.dd, .int .i64 R2.dt, .int .i64 R2.dd, .int .i64 R2.dt] 25)) 25 #[.int .i64 0, .int .i64 0]; (try simp only [World.size_alloc] at h); exact h)
          replace HR1 := Lib.hid (Blk.alloc (.cells #[.int .i64 0, .int .i64 0] 25) HR1.out)
          replace HR2 := Lib.hid (Blk.alloc (.cells #[.int .i64 0, .int .i64 0] 25) HR2.out)
          replace HR3 := Lib.hid (Blk.alloc (.cells #[.int .i64 0, .int .i64 0] 25) HR3.out)
          replace HM := Lib.hid (Blk.alloc (.cells #[.int .i64 0, .int .i64 0] 25) HM.out)
          replace HG := Lib.hid (Blk.alloc (.cells #[.int .i64 0, .int .i64 0] 25) HG.out)
          replace HN := Lib.hid (Blk.alloc (.cells #[.int .i64 0, .int .i64 0] 25) HN.out)
          replace HO2 := Lib.hid (Own.alloc (.cells #[.int .i64 0, .int .i64 0] 25) HO2.out)
          replace HS := Lib.hid (Src.alloc (.cells #[.int .i64 0, .int .i64 0] 25) HS.out)
          replace HK := Lib.hid (Kp.alloc (.cells #[.int .i64 0, .int .i64 0] 25) HK.out)
          have hlHG2 := HG2.out.lt
          refine hK.out _ _ (⟨HM.out, trivial⟩) (fun hHeld => ?_)
          clear hK K
          try simp only [Act.put, List.setIfInBounds_toArray, List.set_cons_zero, List.set_cons_succ]
          refine wpAnyH_ready (rs := [8]) (by kernel_rfl) (by simp) ?_
          refine AllReadyH.cons rfl (fun K hK => ?_) (AllReadyH.nil)
          go_simp
          go_at_call 46; refine (l01Next_c X A zs _ (by omega) _ (zsr HS)).mono ?_; rintro e w4 ⟨x4, rfl, hx4, hy4, hd4⟩; (try rw [Int.max_eq_left (by omega)] at hy4); have hkb := hd4.kp; have hka := zka HK hkb; have hlS4 := HS.out.lt; (try replace HR1 := zb hka hkb HR1); (try replace HR2 := zb hka hkb HR2); (try replace HR3 := zb hka hkb HR3); (try replace HM := zb hka hkb HM); (try replace HG := zb hka hkb HG); (try replace HN := zb hka hkb HN); (try replace HG2 := zb hka hkb HG2); (try replace HO2 := zo hka hkb HO2); replace HK := zt HK hka hkb; have hsz4 := hkb.size_; have hsy4 := hka.size_; (try simp only [World.size_alloc, World.size_drew, World.heap_drewN, World.size_setCell] at hsz4 hsy4); replace HS := Lib.hid hd4.src; clear hka hkb hd4 hlS4; have hlS4 := HS.out.lt
          refine hK.out _ _ (⟨HM.out, trivial⟩) (fun hHeld => ?_)
          clear hK K
          try simp only [Act.put, List.setIfInBounds_toArray, List.set_cons_zero, List.set_cons_succ]
          obtain ⟨j, rfl⟩ : ∃ j : Nat, x4 = j := ⟨x4.toNat, by omega⟩
          refine wpAnyH_ready (rs := [9]) (by kernel_rfl) (by simp) ?_
          refine AllReadyH.cons rfl (fun K hK => ?_) (AllReadyH.nil)
          have hj3 : j < 3 := by omega
          have hj3i : ¬ (3 : Int) ≤ j := by omega
          go_simp
          refine hK.out _ _ (⟨HM.out, trivial⟩) (fun hHeld => ?_)
          clear hK K
          try simp only [Act.put, List.setIfInBounds_toArray, List.set_cons_zero, List.set_cons_succ]
          refine wpAnyH_ready (rs := [10]) (by kernel_rfl) (by simp) ?_
          refine AllReadyH.cons rfl (fun K hK => ?_) (AllReadyH.nil)
          obtain ⟨fd, ft, n0, n1⟩ : ∃ fd ft : Int, (w4).cell? ⟨v4.heap.size, j * 2, none⟩ = some (.int .i64 fd) ∧ (w4).cell? ⟨v4.heap.size, j * 2 + 1, none⟩ = some (.int .i64 ft) := by
            rcases (show j = 0 ∨ j = 1 ∨ j = 2 by omega) with rfl | rfl | rfl
            · exact ⟨_, _, by rw [HN.out.cell]; rfl, by rw [HN.out.cell]; rfl⟩
            · exact ⟨_, _, by rw [HN.out.cell]; rfl, by rw [HN.out.cell]; rfl⟩
            · exact ⟨_, _, by rw [HN.out.cell]; rfl, by rw [HN.out.cell]; rfl⟩
          go_simp
          refine hK.out _ _ (⟨HM.out, trivial⟩) (fun hHeld => ?_)
          clear hK K
          try simp only [Act.put, List.setIfInBounds_toArray, List.set_cons_zero, List.set_cons_succ]
          clear n0 n1
          refine wpAnyH_ready (rs := [12]) (by kernel_rfl) (by simp) ?_
          refine AllReadyH.cons rfl (fun K hK => ?_) AllReadyH.nil
          refine step_store_part 25 _ _ _ 0 (.agg #[.int .i64 fd, .int .i64 ft]) #[.int .i64 fd, .int .i64 ft] (Blk.kp (zk0 HK) (by omega) HG2.out) rfl rfl rfl rfl rfl (by rfl) (by kernel_rfl) (by simp [Value.oneCell']) (by simp) ?_; intro wS hBS hkb; simp only [setL, List.setIfInBounds_toArray, List.set_cons_zero, List.set_cons_succ] at hBS; have hka := zka HK hkb; have hlSo := HS.out.lt; (try replace HR1 := zb hka hkb HR1); (try replace HR2 := zb hka hkb HR2); (try replace HR3 := zb hka hkb HR3); (try replace HM := zb hka hkb HM); (try replace HG := zb hka hkb HG); (try replace HO2 := zo hka hkb HO2); (try replace HS := Lib.hid (Src.kpg2 HS.out (by repeat (with_reducible first | exact Below.refl _ _ | refine Bel.alloc ?_ _ | refine Below.drew ?_ | refine Bel.drewN ?_ _)) hkb (by omega))); replace HG2 := Lib.hid hBS; replace HK := Lib.hid (Kp.own hkb (by omega) (Kp.trans HK.out hka)); have hszS := hkb.size_; have hsyS := hka.size_; (try simp only [World.size_alloc, World.size_drew, World.heap_drewN, World.size_setCell] at hszS hsyS); clear hBS hka hkb hlSo; have hlSS := HS.out.lt
          refine hK.out _ _ (⟨HM.out, trivial⟩) (fun hHeld => ?_)
          clear hK K
          try simp only [Act.put, List.setIfInBounds_toArray, List.set_cons_zero, List.set_cons_succ]
          refine wpAnyH_done (by kernel_rfl) ?_ _
          have hYl : w2.heap.size < v4.heap.size + 1 ∧ Y3 < v4.heap.size + 1 := by omega
          exact key.out _ _ _ _ _ _ hYl HR1 HR2 HR3 HM HG HG2 HO2 HS HK
      · skip
        go_simp
        go_at_call 46; refine (l01Next_c X A zs _ (by omega) _ (zsr HS)).mono ?_; rintro e w4 ⟨x4, rfl, hx4, hy4, hd4⟩; (try rw [Int.max_eq_left (by omega)] at hy4); have hkb := hd4.kp; have hka := zka HK hkb; have hlS4 := HS.out.lt; (try replace HR1 := zb hka hkb HR1); (try replace HR2 := zb hka hkb HR2); (try replace HR3 := zb hka hkb HR3); (try replace HM := zb hka hkb HM); (try replace HG := zb hka hkb HG); (try replace HO2 := zo hka hkb HO2); replace HK := zt HK hka hkb; have hsz4 := hkb.size_; have hsy4 := hka.size_; (try simp only [World.size_alloc, World.size_drew, World.heap_drewN, World.size_setCell] at hsz4 hsy4); replace HS := Lib.hid hd4.src; clear hka hkb hd4 hlS4; have hlS4 := HS.out.lt
        refine hK.out _ _ (⟨HM.out, trivial⟩) (fun hHeld => ?_)
        clear hK K
        try simp only [Act.put, List.setIfInBounds_toArray, List.set_cons_zero, List.set_cons_succ]
        obtain ⟨j, rfl⟩ : ∃ j : Nat, x4 = j := ⟨x4.toNat, by omega⟩
        refine wpAnyH_ready (rs := [6, 11]) (by kernel_rfl) (by simp) ?_
        refine AllReadyH.cons rfl (fun K hK => ?_) (AllReadyH.cons rfl (fun K hK => ?_) (AllReadyH.nil))
        · skip
          go_simp
          have HN := Lib.hid (Blk.new w4 25 #[.int .i64 R2.cd, .int .i64 R2.ct, .int .i64 R2.dd, .int .i64 R2.dt, .int .i64 R2.dd, .int .i64 R2.dt])
          replace HR1 := Lib.hid (Blk.alloc (.cells #[.int .i64 R2.cd, .int .i64 R2.ct, .int .i64 R2.dd, .int .i64 R2.dt, .int .i64 R2.dd, .int .i64 R2.dt] 25) HR1.out)
          replace HR2 := Lib.hid (Blk.alloc (.cells #[.int .i64 R2.cd, .int .i64 R2.ct, .int .i64 R2.dd, .int .i64 R2.dt, .int .i64 R2.dd, .int .i64 R2.dt] 25) HR2.out)
          replace HR3 := Lib.hid (Blk.alloc (.cells #[.int .i64 R2.cd, .int .i64 R2.ct, .int .i64 R2.dd, .int .i64 R2.dt, .int .i64 R2.dd, .int .i64 R2.dt] 25) HR3.out)
          replace HM := Lib.hid (Blk.alloc (.cells #[.int .i64 R2.cd, .int .i64 R2.ct, .int .i64 R2.dd, .int .i64 R2.dt, .int .i64 R2.dd, .int .i64 R2.dt] 25) HM.out)
          replace HG := Lib.hid (Blk.alloc (.cells #[.int .i64 R2.cd, .int .i64 R2.ct, .int .i64 R2.dd, .int .i64 R2.dt, .int .i64 R2.dd, .int .i64 R2.dt] 25) HG.out)
          replace HO2 := Lib.hid (Own.alloc (.cells #[.int .i64 R2.cd, .int .i64 R2.ct, .int .i64 R2.dd, .int .i64 R2.dt, .int .i64 R2.dd, .int .i64 R2.dt] 25) HO2.out)
          replace HS := Lib.hid (Src.alloc (.cells #[.int .i64 R2.cd, .int .i64 R2.ct, .int .i64 R2.dd, .int .i64 R2.dt, .int .i64 R2.dd, .int .i64 R2.dt] 25) HS.out)
          replace HK := Lib.hid (Kp.alloc (.cells #[.int .i64 R2.cd, .int .i64 R2.ct, .int .i64 R2.dd, .int .i64 R2.dt, .int .i64 R2.dd, .int .i64 R2.dt] 25) HK.out)
          have hlN := HN.out.lt
          refine hK.out _ _ (⟨HM.out, trivial⟩) (fun hHeld => ?_)
          clear hK K
          try simp only [Act.put, List.setIfInBounds_toArray, List.set_cons_zero, List.set_cons_succ]
          refine wpAnyH_ready (rs := [9, 11]) (by kernel_rfl) (by simp) ?_
          refine AllReadyH.cons rfl (fun K hK => ?_) (AllReadyH.cons rfl (fun K hK => ?_) (AllReadyH.nil))
          · skip
            have hj3 : j < 3 := by omega
            have hj3i : ¬ (3 : Int) ≤ j := by omega
            go_simp
            refine hK.out _ _ (⟨HM.out, trivial⟩) (fun hHeld => ?_)
            clear hK K
            try simp only [Act.put, List.setIfInBounds_toArray, List.set_cons_zero, List.set_cons_succ]
            refine wpAnyH_ready (rs := [10, 11]) (by kernel_rfl) (by simp) ?_
            refine AllReadyH.cons rfl (fun K hK => ?_) (AllReadyH.cons rfl (fun K hK => ?_) (AllReadyH.nil))
            · skip
              obtain ⟨fd, ft, n0, n1⟩ : ∃ fd ft : Int, ((w4.alloc (.cells #[.int .i64 R2.cd, .int .i64 R2.ct, .int .i64 R2.dd, .int .i64 R2.dt, .int .i64 R2.dd, .int .i64 R2.dt] 25))).cell? ⟨w4.heap.size, j * 2, none⟩ = some (.int .i64 fd) ∧ ((w4.alloc (.cells #[.int .i64 R2.cd, .int .i64 R2.ct, .int .i64 R2.dd, .int .i64 R2.dt, .int .i64 R2.dd, .int .i64 R2.dt] 25))).cell? ⟨w4.heap.size, j * 2 + 1, none⟩ = some (.int .i64 ft) := by
                rcases (show j = 0 ∨ j = 1 ∨ j = 2 by omega) with rfl | rfl | rfl
                · exact ⟨_, _, by rw [HN.out.cell]; rfl, by rw [HN.out.cell]; rfl⟩
                · exact ⟨_, _, by rw [HN.out.cell]; rfl, by rw [HN.out.cell]; rfl⟩
                · exact ⟨_, _, by rw [HN.out.cell]; rfl, by rw [HN.out.cell]; rfl⟩
              go_simp
              refine hK.out _ _ (⟨HM.out, trivial⟩) (fun hHeld => ?_)
              clear hK K
              try simp only [Act.put, List.setIfInBounds_toArray, List.set_cons_zero, List.set_cons_succ]
              clear n0 n1
              refine wpAnyH_ready (rs := [11]) (by kernel_rfl) (by simp) ?_
              refine AllReadyH.cons rfl (fun K hK => ?_) (AllReadyH.nil)
              go_simp
              have HG2 := Lib.hid (by have h := Blk.new (w4.alloc (.cells #[.int .i64 R2.cd, .int .i64 R2.ct, .int .i64 R2.dd, .int .i64 R2.dt, .int .i64 R2.dd, .int .i64 R2.dt] 25)) 25 #[.int .i64 0, .int .i64 0]; (try simp only [World.size_alloc] at h); exact h)
              replace HR1 := Lib.hid (Blk.alloc (.cells #[.int .i64 0, .int .i64 0] 25) HR1.out)
              replace HR2 := Lib.hid (Blk.alloc (.cells #[.int .i64 0, .int .i64 0] 25) HR2.out)
              replace HR3 := Lib.hid (Blk.alloc (.cells #[.int .i64 0, .int .i64 0] 25) HR3.out)
              replace HM := Lib.hid (Blk.alloc (.cells #[.int .i64 0, .int .i64 0] 25) HM.out)
              replace HG := Lib.hid (Blk.alloc (.cells #[.int .i64 0, .int .i64 0] 25) HG.out)
              replace HN := Lib.hid (Blk.alloc (.cells #[.int .i64 0, .int .i64 0] 25) HN.out)
              replace HO2 := Lib.hid (Own.alloc (.cells #[.int .i64 0, .int .i64 0] 25) HO2.out)
              replace HS := Lib.hid (Src.alloc (.cells #[.int .i64 0, .int .i64 0] 25) HS.out)
              replace HK := Lib.hid (Kp.alloc (.cells #[.int .i64 0, .int .i64 0] 25) HK.out)
              have hlHG2 := HG2.out.lt
              refine hK.out _ _ (⟨HM.out, trivial⟩) (fun hHeld => ?_)
              clear hK K
              try simp only [Act.put, List.setIfInBounds_toArray, List.set_cons_zero, List.set_cons_succ]
              refine wpAnyH_ready (rs := [12]) (by kernel_rfl) (by simp) ?_
              refine AllReadyH.cons rfl (fun K hK => ?_) AllReadyH.nil
              refine step_store_part 25 _ _ _ 0 (.agg #[.int .i64 fd, .int .i64 ft]) #[.int .i64 fd, .int .i64 ft] (Blk.kp (zk0 HK) (by omega) HG2.out) rfl rfl rfl rfl rfl (by rfl) (by kernel_rfl) (by simp [Value.oneCell']) (by simp) ?_; intro wS hBS hkb; simp only [setL, List.setIfInBounds_toArray, List.set_cons_zero, List.set_cons_succ] at hBS; have hka := zka HK hkb; have hlSo := HS.out.lt; (try replace HR1 := zb hka hkb HR1); (try replace HR2 := zb hka hkb HR2); (try replace HR3 := zb hka hkb HR3); (try replace HM := zb hka hkb HM); (try replace HG := zb hka hkb HG); (try replace HO2 := zo hka hkb HO2); (try replace HS := Lib.hid (Src.kpg2 HS.out (by repeat (with_reducible first | exact Below.refl _ _ | refine Bel.alloc ?_ _ | refine Below.drew ?_ | refine Bel.drewN ?_ _)) hkb (by omega))); replace HG2 := Lib.hid hBS; replace HK := Lib.hid (Kp.own hkb (by omega) (Kp.trans HK.out hka)); have hszS := hkb.size_; have hsyS := hka.size_; (try simp only [World.size_alloc, World.size_drew, World.heap_drewN, World.size_setCell] at hszS hsyS); clear hBS hka hkb hlSo; have hlSS := HS.out.lt
              refine hK.out _ _ (⟨HM.out, trivial⟩) (fun hHeld => ?_)
              clear hK K
              try simp only [Act.put, List.setIfInBounds_toArray, List.set_cons_zero, List.set_cons_succ]
              refine wpAnyH_done (by kernel_rfl) ?_ _
              have hYl : w2.heap.size < w4.heap.size + 1 ∧ Y3 < w4.heap.size + 1 := by omega
              exact key.out _ _ _ _ _ _ hYl HR1 HR2 HR3 HM HG HG2 HO2 HS HK
            · skip
              go_simp
              have HG2 := Lib.hid (by have h := Blk.new (w4.alloc (.cells #[.int .i64 R2.cd, .int .i64 R2.ct, .int .i64 R2.dd, .int .i64 R2.dt, .int .i64 R2.dd, .int .i64 R2.dt] 25)) 25 #[.int .i64 0, .int .i64 0]; (try simp only [World.size_alloc] at h); exact h)
              replace HR1 := Lib.hid (Blk.alloc (.cells #[.int .i64 0, .int .i64 0] 25) HR1.out)
              replace HR2 := Lib.hid (Blk.alloc (.cells #[.int .i64 0, .int .i64 0] 25) HR2.out)
              replace HR3 := Lib.hid (Blk.alloc (.cells #[.int .i64 0, .int .i64 0] 25) HR3.out)
              replace HM := Lib.hid (Blk.alloc (.cells #[.int .i64 0, .int .i64 0] 25) HM.out)
              replace HG := Lib.hid (Blk.alloc (.cells #[.int .i64 0, .int .i64 0] 25) HG.out)
              replace HN := Lib.hid (Blk.alloc (.cells #[.int .i64 0, .int .i64 0] 25) HN.out)
              replace HO2 := Lib.hid (Own.alloc (.cells #[.int .i64 0, .int .i64 0] 25) HO2.out)
              replace HS := Lib.hid (Src.alloc (.cells #[.int .i64 0, .int .i64 0] 25) HS.out)
              replace HK := Lib.hid (Kp.alloc (.cells #[.int .i64 0, .int .i64 0] 25) HK.out)
              have hlHG2 := HG2.out.lt
              refine hK.out _ _ (⟨HM.out, trivial⟩) (fun hHeld => ?_)
              clear hK K
              try simp only [Act.put, List.setIfInBounds_toArray, List.set_cons_zero, List.set_cons_succ]
              refine wpAnyH_ready (rs := [10]) (by kernel_rfl) (by simp) ?_
              refine AllReadyH.cons rfl (fun K hK => ?_) (AllReadyH.nil)
              obtain ⟨fd, ft, n0, n1⟩ : ∃ fd ft : Int, (((w4.alloc (.cells #[.int .i64 R2.cd, .int .i64 R2.ct, .int .i64 R2.dd, .int .i64 R2.dt, .int .i64 R2.dd, .int .i64 R2.dt] 25)).alloc (.cells #[.int .i64 0, .int .i64 0] 25))).cell? ⟨w4.heap.size, j * 2, none⟩ = some (.int .i64 fd) ∧ (((w4.alloc (.cells #[.int .i64 R2.cd, .int .i64 R2.ct, .int .i64 R2.dd, .int .i64 R2.dt, .int .i64 R2.dd, .int .i64 R2.dt] 25)).alloc (.cells #[.int .i64 0, .int .i64 0] 25))).cell? ⟨w4.heap.size, j * 2 + 1, none⟩ = some (.int .i64 ft) := by
                rcases (show j = 0 ∨ j = 1 ∨ j = 2 by omega) with rfl | rfl | rfl
                · exact ⟨_, _, by rw [HN.out.cell]; rfl, by rw [HN.out.cell]; rfl⟩
                · exact ⟨_, _, by rw [HN.out.cell]; rfl, by rw [HN.out.cell]; rfl⟩
                · exact ⟨_, _, by rw [HN.out.cell]; rfl, by rw [HN.out.cell]; rfl⟩
              go_simp
              refine hK.out _ _ (⟨HM.out, trivial⟩) (fun hHeld => ?_)
              clear hK K
              try simp only [Act.put, List.setIfInBounds_toArray, List.set_cons_zero, List.set_cons_succ]
              clear n0 n1
              refine wpAnyH_ready (rs := [12]) (by kernel_rfl) (by simp) ?_
              refine AllReadyH.cons rfl (fun K hK => ?_) AllReadyH.nil
              refine step_store_part 25 _ _ _ 0 (.agg #[.int .i64 fd, .int .i64 ft]) #[.int .i64 fd, .int .i64 ft] (Blk.kp (zk0 HK) (by omega) HG2.out) rfl rfl rfl rfl rfl (by rfl) (by kernel_rfl) (by simp [Value.oneCell']) (by simp) ?_; intro wS hBS hkb; simp only [setL, List.setIfInBounds_toArray, List.set_cons_zero, List.set_cons_succ] at hBS; have hka := zka HK hkb; have hlSo := HS.out.lt; (try replace HR1 := zb hka hkb HR1); (try replace HR2 := zb hka hkb HR2); (try replace HR3 := zb hka hkb HR3); (try replace HM := zb hka hkb HM); (try replace HG := zb hka hkb HG); (try replace HO2 := zo hka hkb HO2); (try replace HS := Lib.hid (Src.kpg2 HS.out (by repeat (with_reducible first | exact Below.refl _ _ | refine Bel.alloc ?_ _ | refine Below.drew ?_ | refine Bel.drewN ?_ _)) hkb (by omega))); replace HG2 := Lib.hid hBS; replace HK := Lib.hid (Kp.own hkb (by omega) (Kp.trans HK.out hka)); have hszS := hkb.size_; have hsyS := hka.size_; (try simp only [World.size_alloc, World.size_drew, World.heap_drewN, World.size_setCell] at hszS hsyS); clear hBS hka hkb hlSo; have hlSS := HS.out.lt
              refine hK.out _ _ (⟨HM.out, trivial⟩) (fun hHeld => ?_)
              clear hK K
              try simp only [Act.put, List.setIfInBounds_toArray, List.set_cons_zero, List.set_cons_succ]
              refine wpAnyH_done (by kernel_rfl) ?_ _
              have hYl : w2.heap.size < w4.heap.size + 1 ∧ Y3 < w4.heap.size + 1 := by omega
              exact key.out _ _ _ _ _ _ hYl HR1 HR2 HR3 HM HG HG2 HO2 HS HK
          · skip
            go_simp
            have HG2 := Lib.hid (by have h := Blk.new (w4.alloc (.cells #[.int .i64 R2.cd, .int .i64 R2.ct, .int .i64 R2.dd, .int .i64 R2.dt, .int .i64 R2.dd, .int .i64 R2.dt] 25)) 25 #[.int .i64 0, .int .i64 0]; (try simp only [World.size_alloc] at h); exact h)
            replace HR1 := Lib.hid (Blk.alloc (.cells #[.int .i64 0, .int .i64 0] 25) HR1.out)
            replace HR2 := Lib.hid (Blk.alloc (.cells #[.int .i64 0, .int .i64 0] 25) HR2.out)
            replace HR3 := Lib.hid (Blk.alloc (.cells #[.int .i64 0, .int .i64 0] 25) HR3.out)
            replace HM := Lib.hid (Blk.alloc (.cells #[.int .i64 0, .int .i64 0] 25) HM.out)
            replace HG := Lib.hid (Blk.alloc (.cells #[.int .i64 0, .int .i64 0] 25) HG.out)
            replace HN := Lib.hid (Blk.alloc (.cells #[.int .i64 0, .int .i64 0] 25) HN.out)
            replace HO2 := Lib.hid (Own.alloc (.cells #[.int .i64 0, .int .i64 0] 25) HO2.out)
            replace HS := Lib.hid (Src.alloc (.cells #[.int .i64 0, .int .i64 0] 25) HS.out)
            replace HK := Lib.hid (Kp.alloc (.cells #[.int .i64 0, .int .i64 0] 25) HK.out)
            have hlHG2 := HG2.out.lt
            refine hK.out _ _ (⟨HM.out, trivial⟩) (fun hHeld => ?_)
            clear hK K
            try simp only [Act.put, List.setIfInBounds_toArray, List.set_cons_zero, List.set_cons_succ]
            refine wpAnyH_ready (rs := [9]) (by kernel_rfl) (by simp) ?_
            refine AllReadyH.cons rfl (fun K hK => ?_) (AllReadyH.nil)
            have hj3 : j < 3 := by omega
            have hj3i : ¬ (3 : Int) ≤ j := by omega
            go_simp
            refine hK.out _ _ (⟨HM.out, trivial⟩) (fun hHeld => ?_)
            clear hK K
            try simp only [Act.put, List.setIfInBounds_toArray, List.set_cons_zero, List.set_cons_succ]
            refine wpAnyH_ready (rs := [10]) (by kernel_rfl) (by simp) ?_
            refine AllReadyH.cons rfl (fun K hK => ?_) (AllReadyH.nil)
            obtain ⟨fd, ft, n0, n1⟩ : ∃ fd ft : Int, (((w4.alloc (.cells #[.int .i64 R2.cd, .int .i64 R2.ct, .int .i64 R2.dd, .int .i64 R2.dt, .int .i64 R2.dd, .int .i64 R2.dt] 25)).alloc (.cells #[.int .i64 0, .int .i64 0] 25))).cell? ⟨w4.heap.size, j * 2, none⟩ = some (.int .i64 fd) ∧ (((w4.alloc (.cells #[.int .i64 R2.cd, .int .i64 R2.ct, .int .i64 R2.dd, .int .i64 R2.dt, .int .i64 R2.dd, .int .i64 R2.dt] 25)).alloc (.cells #[.int .i64 0, .int .i64 0] 25))).cell? ⟨w4.heap.size, j * 2 + 1, none⟩ = some (.int .i64 ft) := by
              rcases (show j = 0 ∨ j = 1 ∨ j = 2 by omega) with rfl | rfl | rfl
              · exact ⟨_, _, by rw [HN.out.cell]; rfl, by rw [HN.out.cell]; rfl⟩
              · exact ⟨_, _, by rw [HN.out.cell]; rfl, by rw [HN.out.cell]; rfl⟩
              · exact ⟨_, _, by rw [HN.out.cell]; rfl, by rw [HN.out.cell]; rfl⟩
            go_simp
            refine hK.out _ _ (⟨HM.out, trivial⟩) (fun hHeld => ?_)
            clear hK K
            try simp only [Act.put, List.setIfInBounds_toArray, List.set_cons_zero, List.set_cons_succ]
            clear n0 n1
            refine wpAnyH_ready (rs := [12]) (by kernel_rfl) (by simp) ?_
            refine AllReadyH.cons rfl (fun K hK => ?_) AllReadyH.nil
            refine step_store_part 25 _ _ _ 0 (.agg #[.int .i64 fd, .int .i64 ft]) #[.int .i64 fd, .int .i64 ft] (Blk.kp (zk0 HK) (by omega) HG2.out) rfl rfl rfl rfl rfl (by rfl) (by kernel_rfl) (by simp [Value.oneCell']) (by simp) ?_; intro wS hBS hkb; simp only [setL, List.setIfInBounds_toArray, List.set_cons_zero, List.set_cons_succ] at hBS; have hka := zka HK hkb; have hlSo := HS.out.lt; (try replace HR1 := zb hka hkb HR1); (try replace HR2 := zb hka hkb HR2); (try replace HR3 := zb hka hkb HR3); (try replace HM := zb hka hkb HM); (try replace HG := zb hka hkb HG); (try replace HO2 := zo hka hkb HO2); (try replace HS := Lib.hid (Src.kpg2 HS.out (by repeat (with_reducible first | exact Below.refl _ _ | refine Bel.alloc ?_ _ | refine Below.drew ?_ | refine Bel.drewN ?_ _)) hkb (by omega))); replace HG2 := Lib.hid hBS; replace HK := Lib.hid (Kp.own hkb (by omega) (Kp.trans HK.out hka)); have hszS := hkb.size_; have hsyS := hka.size_; (try simp only [World.size_alloc, World.size_drew, World.heap_drewN, World.size_setCell] at hszS hsyS); clear hBS hka hkb hlSo; have hlSS := HS.out.lt
            refine hK.out _ _ (⟨HM.out, trivial⟩) (fun hHeld => ?_)
            clear hK K
            try simp only [Act.put, List.setIfInBounds_toArray, List.set_cons_zero, List.set_cons_succ]
            refine wpAnyH_done (by kernel_rfl) ?_ _
            have hYl : w2.heap.size < w4.heap.size + 1 ∧ Y3 < w4.heap.size + 1 := by omega
            exact key.out _ _ _ _ _ _ hYl HR1 HR2 HR3 HM HG HG2 HO2 HS HK
        · skip
          go_simp
          have HG2 := Lib.hid (Blk.new w4 25 #[.int .i64 0, .int .i64 0])
          replace HR1 := Lib.hid (Blk.alloc (.cells #[.int .i64 0, .int .i64 0] 25) HR1.out)
          replace HR2 := Lib.hid (Blk.alloc (.cells #[.int .i64 0, .int .i64 0] 25) HR2.out)
          replace HR3 := Lib.hid (Blk.alloc (.cells #[.int .i64 0, .int .i64 0] 25) HR3.out)
          replace HM := Lib.hid (Blk.alloc (.cells #[.int .i64 0, .int .i64 0] 25) HM.out)
          replace HG := Lib.hid (Blk.alloc (.cells #[.int .i64 0, .int .i64 0] 25) HG.out)
          replace HO2 := Lib.hid (Own.alloc (.cells #[.int .i64 0, .int .i64 0] 25) HO2.out)
          replace HS := Lib.hid (Src.alloc (.cells #[.int .i64 0, .int .i64 0] 25) HS.out)
          replace HK := Lib.hid (Kp.alloc (.cells #[.int .i64 0, .int .i64 0] 25) HK.out)
          have hlHG2 := HG2.out.lt
          refine hK.out _ _ (⟨HM.out, trivial⟩) (fun hHeld => ?_)
          clear hK K
          try simp only [Act.put, List.setIfInBounds_toArray, List.set_cons_zero, List.set_cons_succ]
          refine wpAnyH_ready (rs := [6]) (by kernel_rfl) (by simp) ?_
          refine AllReadyH.cons rfl (fun K hK => ?_) (AllReadyH.nil)
          go_simp
          have HN := Lib.hid (by have h := Blk.new (w4.alloc (.cells #[.int .i64 0, .int .i64 0] 25)) 25 #[.int .i64 R2.cd, .int .i64 R2.ct, .int .i64 R2.dd, .int .i64 R2.dt, .int .i64 R2.dd, .int .i64 R2.dt]; (try simp only [World.size_alloc] at h); exact h)
          replace HR1 := Lib.hid (Blk.alloc (.cells #[.int .i64 R2.cd, .int .i64 R2.ct, .int .i64 R2.dd, .int .i64 R2.dt, .int .i64 R2.dd, .int .i64 R2.dt] 25) HR1.out)
          replace HR2 := Lib.hid (Blk.alloc (.cells #[.int .i64 R2.cd, .int .i64 R2.ct, .int .i64 R2.dd, .int .i64 R2.dt, .int .i64 R2.dd, .int .i64 R2.dt] 25) HR2.out)
          replace HR3 := Lib.hid (Blk.alloc (.cells #[.int .i64 R2.cd, .int .i64 R2.ct, .int .i64 R2.dd, .int .i64 R2.dt, .int .i64 R2.dd, .int .i64 R2.dt] 25) HR3.out)
          replace HM := Lib.hid (Blk.alloc (.cells #[.int .i64 R2.cd, .int .i64 R2.ct, .int .i64 R2.dd, .int .i64 R2.dt, .int .i64 R2.dd, .int .i64 R2.dt] 25) HM.out)
          replace HG := Lib.hid (Blk.alloc (.cells #[.int .i64 R2.cd, .int .i64 R2.ct, .int .i64 R2.dd, .int .i64 R2.dt, .int .i64 R2.dd, .int .i64 R2.dt] 25) HG.out)
          replace HG2 := Lib.hid (Blk.alloc (.cells #[.int .i64 R2.cd, .int .i64 R2.ct, .int .i64 R2.dd, .int .i64 R2.dt, .int .i64 R2.dd, .int .i64 R2.dt] 25) HG2.out)
          replace HO2 := Lib.hid (Own.alloc (.cells #[.int .i64 R2.cd, .int .i64 R2.ct, .int .i64 R2.dd, .int .i64 R2.dt, .int .i64 R2.dd, .int .i64 R2.dt] 25) HO2.out)
          replace HS := Lib.hid (Src.alloc (.cells #[.int .i64 R2.cd, .int .i64 R2.ct, .int .i64 R2.dd, .int .i64 R2.dt, .int .i64 R2.dd, .int .i64 R2.dt] 25) HS.out)
          replace HK := Lib.hid (Kp.alloc (.cells #[.int .i64 R2.cd, .int .i64 R2.ct, .int .i64 R2.dd, .int .i64 R2.dt, .int .i64 R2.dd, .int .i64 R2.dt] 25) HK.out)
          have hlN := HN.out.lt
          refine hK.out _ _ (⟨HM.out, trivial⟩) (fun hHeld => ?_)
          clear hK K
          try simp only [Act.put, List.setIfInBounds_toArray, List.set_cons_zero, List.set_cons_succ]
          refine wpAnyH_ready (rs := [9]) (by kernel_rfl) (by simp) ?_
          refine AllReadyH.cons rfl (fun K hK => ?_) (AllReadyH.nil)
          have hj3 : j < 3 := by omega
          have hj3i : ¬ (3 : Int) ≤ j := by omega
          go_simp
          refine hK.out _ _ (⟨HM.out, trivial⟩) (fun hHeld => ?_)
          clear hK K
          try simp only [Act.put, List.setIfInBounds_toArray, List.set_cons_zero, List.set_cons_succ]
          refine wpAnyH_ready (rs := [10]) (by kernel_rfl) (by simp) ?_
          refine AllReadyH.cons rfl (fun K hK => ?_) (AllReadyH.nil)
          obtain ⟨fd, ft, n0, n1⟩ : ∃ fd ft : Int, (((w4.alloc (.cells #[.int .i64 0, .int .i64 0] 25)).alloc (.cells #[.int .i64 R2.cd, .int .i64 R2.ct, .int .i64 R2.dd, .int .i64 R2.dt, .int .i64 R2.dd, .int .i64 R2.dt] 25))).cell? ⟨w4.heap.size + 1, j * 2, none⟩ = some (.int .i64 fd) ∧ (((w4.alloc (.cells #[.int .i64 0, .int .i64 0] 25)).alloc (.cells #[.int .i64 R2.cd, .int .i64 R2.ct, .int .i64 R2.dd, .int .i64 R2.dt, .int .i64 R2.dd, .int .i64 R2.dt] 25))).cell? ⟨w4.heap.size + 1, j * 2 + 1, none⟩ = some (.int .i64 ft) := by
            rcases (show j = 0 ∨ j = 1 ∨ j = 2 by omega) with rfl | rfl | rfl
            · exact ⟨_, _, by rw [HN.out.cell]; rfl, by rw [HN.out.cell]; rfl⟩
            · exact ⟨_, _, by rw [HN.out.cell]; rfl, by rw [HN.out.cell]; rfl⟩
            · exact ⟨_, _, by rw [HN.out.cell]; rfl, by rw [HN.out.cell]; rfl⟩
          go_simp
          refine hK.out _ _ (⟨HM.out, trivial⟩) (fun hHeld => ?_)
          clear hK K
          try simp only [Act.put, List.setIfInBounds_toArray, List.set_cons_zero, List.set_cons_succ]
          clear n0 n1
          refine wpAnyH_ready (rs := [12]) (by kernel_rfl) (by simp) ?_
          refine AllReadyH.cons rfl (fun K hK => ?_) AllReadyH.nil
          refine step_store_part 25 _ _ _ 0 (.agg #[.int .i64 fd, .int .i64 ft]) #[.int .i64 fd, .int .i64 ft] (Blk.kp (zk0 HK) (by omega) HG2.out) rfl rfl rfl rfl rfl (by rfl) (by kernel_rfl) (by simp [Value.oneCell']) (by simp) ?_; intro wS hBS hkb; simp only [setL, List.setIfInBounds_toArray, List.set_cons_zero, List.set_cons_succ] at hBS; have hka := zka HK hkb; have hlSo := HS.out.lt; (try replace HR1 := zb hka hkb HR1); (try replace HR2 := zb hka hkb HR2); (try replace HR3 := zb hka hkb HR3); (try replace HM := zb hka hkb HM); (try replace HG := zb hka hkb HG); (try replace HO2 := zo hka hkb HO2); (try replace HS := Lib.hid (Src.kpg2 HS.out (by repeat (with_reducible first | exact Below.refl _ _ | refine Bel.alloc ?_ _ | refine Below.drew ?_ | refine Bel.drewN ?_ _)) hkb (by omega))); replace HG2 := Lib.hid hBS; replace HK := Lib.hid (Kp.own hkb (by omega) (Kp.trans HK.out hka)); have hszS := hkb.size_; have hsyS := hka.size_; (try simp only [World.size_alloc, World.size_drew, World.heap_drewN, World.size_setCell] at hszS hsyS); clear hBS hka hkb hlSo; have hlSS := HS.out.lt
          refine hK.out _ _ (⟨HM.out, trivial⟩) (fun hHeld => ?_)
          clear hK K
          try simp only [Act.put, List.setIfInBounds_toArray, List.set_cons_zero, List.set_cons_succ]
          refine wpAnyH_done (by kernel_rfl) ?_ _
          have hYl : w2.heap.size < w4.heap.size ∧ Y3 < w4.heap.size := by omega
          exact key.out _ _ _ _ _ _ hYl HR1 HR2 HR3 HM HG HG2 HO2 HS HK
      · skip
        go_simp
        have HG2 := Lib.hid (Blk.new v4 25 #[.int .i64 0, .int .i64 0])
        replace HR1 := Lib.hid (Blk.alloc (.cells #[.int .i64 0, .int .i64 0] 25) HR1.out)
        replace HR2 := Lib.hid (Blk.alloc (.cells #[.int .i64 0, .int .i64 0] 25) HR2.out)
        replace HR3 := Lib.hid (Blk.alloc (.cells #[.int .i64 0, .int .i64 0] 25) HR3.out)
        replace HM := Lib.hid (Blk.alloc (.cells #[.int .i64 0, .int .i64 0] 25) HM.out)
        replace HG := Lib.hid (Blk.alloc (.cells #[.int .i64 0, .int .i64 0] 25) HG.out)
        replace HO2 := Lib.hid (Own.alloc (.cells #[.int .i64 0, .int .i64 0] 25) HO2.out)
        replace HS := Lib.hid (Src.alloc (.cells #[.int .i64 0, .int .i64 0] 25) HS.out)
        replace HK := Lib.hid (Kp.alloc (.cells #[.int .i64 0, .int .i64 0] 25) HK.out)
        have hlHG2 := HG2.out.lt
        refine hK.out _ _ (⟨HM.out, trivial⟩) (fun hHeld => ?_)
        clear hK K
        try simp only [Act.put, List.setIfInBounds_toArray, List.set_cons_zero, List.set_cons_succ]
        refine wpAnyH_ready (rs := [6, 8]) (by kernel_rfl) (by simp) ?_
        refine AllReadyH.cons rfl (fun K hK => ?_) (AllReadyH.cons rfl (fun K hK => ?_) (AllReadyH.nil))
        · skip
          go_simp
          have HN := Lib.hid (by have h := Blk.new (v4.alloc (.cells #[.int .i64 0, .int .i64 0] 25)) 25 #[.int .i64 R2.cd, .int .i64 R2.ct, .int .i64 R2.dd, .int .i64 R2.dt, .int .i64 R2.dd, .int .i64 R2.dt]; (try simp only [World.size_alloc] at h); exact h)
          replace HR1 := Lib.hid (Blk.alloc (.cells #[.int .i64 R2.cd, .int .i64 R2.ct, .int .i64 R2.dd, .int .i64 R2.dt, .int .i64 R2.dd, .int .i64 R2.dt] 25) HR1.out)
          replace HR2 := Lib.hid (Blk.alloc (.cells #[.int .i64 R2.cd, .int .i64 R2.ct, .int .i64 R2.dd, .int .i64 R2.dt, .int .i64 R2.dd, .int .i64 R2.dt] 25) HR2.out)
          replace HR3 := Lib.hid (Blk.alloc (.cells #[.int .i64 R2.cd, .int .i64 R2.ct, .int .i64 R2.dd, .int .i64 R2.dt, .int .i64 R2.dd, .int .i64 R2.dt] 25) HR3.out)
          replace HM := Lib.hid (Blk.alloc (.cells #[.int .i64 R2.cd, .int .i64 R2.ct, .int .i64 R2.dd, .int .i64 R2.dt, .int .i64 R2.dd, .int .i64 R2.dt] 25) HM.out)
          replace HG := Lib.hid (Blk.alloc (.cells #[.int .i64 R2.cd, .int .i64 R2.ct, .int .i64 R2.dd, .int .i64 R2.dt, .int .i64 R2.dd, .int .i64 R2.dt] 25) HG.out)
          replace HG2 := Lib.hid (Blk.alloc (.cells #[.int .i64 R2.cd, .int .i64 R2.ct, .int .i64 R2.dd, .int .i64 R2.dt, .int .i64 R2.dd, .int .i64 R2.dt] 25) HG2.out)
          replace HO2 := Lib.hid (Own.alloc (.cells #[.int .i64 R2.cd, .int .i64 R2.ct, .int .i64 R2.dd, .int .i64 R2.dt, .int .i64 R2.dd, .int .i64 R2.dt] 25) HO2.out)
          replace HS := Lib.hid (Src.alloc (.cells #[.int .i64 R2.cd, .int .i64 R2.ct, .int .i64 R2.dd, .int .i64 R2.dt, .int .i64 R2.dd, .int .i64 R2.dt] 25) HS.out)
          replace HK := Lib.hid (Kp.alloc (.cells #[.int .i64 R2.cd, .int .i64 R2.ct, .int .i64 R2.dd, .int .i64 R2.dt, .int .i64 R2.dd, .int .i64 R2.dt] 25) HK.out)
          have hlN := HN.out.lt
          refine hK.out _ _ (⟨HM.out, trivial⟩) (fun hHeld => ?_)
          clear hK K
          try simp only [Act.put, List.setIfInBounds_toArray, List.set_cons_zero, List.set_cons_succ]
          refine wpAnyH_ready (rs := [8]) (by kernel_rfl) (by simp) ?_
          refine AllReadyH.cons rfl (fun K hK => ?_) (AllReadyH.nil)
          go_simp
          go_at_call 46; refine (l01Next_c X A zs _ (by omega) _ (zsr HS)).mono ?_; rintro e w4 ⟨x4, rfl, hx4, hy4, hd4⟩; (try rw [Int.max_eq_left (by omega)] at hy4); have hkb := hd4.kp; have hka := zka HK hkb; have hlS4 := HS.out.lt; (try replace HR1 := zb hka hkb HR1); (try replace HR2 := zb hka hkb HR2); (try replace HR3 := zb hka hkb HR3); (try replace HM := zb hka hkb HM); (try replace HG := zb hka hkb HG); (try replace HN := zb hka hkb HN); (try replace HG2 := zb hka hkb HG2); (try replace HO2 := zo hka hkb HO2); replace HK := zt HK hka hkb; have hsz4 := hkb.size_; have hsy4 := hka.size_; (try simp only [World.size_alloc, World.size_drew, World.heap_drewN, World.size_setCell] at hsz4 hsy4); replace HS := Lib.hid hd4.src; clear hka hkb hd4 hlS4; have hlS4 := HS.out.lt
          refine hK.out _ _ (⟨HM.out, trivial⟩) (fun hHeld => ?_)
          clear hK K
          try simp only [Act.put, List.setIfInBounds_toArray, List.set_cons_zero, List.set_cons_succ]
          obtain ⟨j, rfl⟩ : ∃ j : Nat, x4 = j := ⟨x4.toNat, by omega⟩
          refine wpAnyH_ready (rs := [9]) (by kernel_rfl) (by simp) ?_
          refine AllReadyH.cons rfl (fun K hK => ?_) (AllReadyH.nil)
          have hj3 : j < 3 := by omega
          have hj3i : ¬ (3 : Int) ≤ j := by omega
          go_simp
          refine hK.out _ _ (⟨HM.out, trivial⟩) (fun hHeld => ?_)
          clear hK K
          try simp only [Act.put, List.setIfInBounds_toArray, List.set_cons_zero, List.set_cons_succ]
          refine wpAnyH_ready (rs := [10]) (by kernel_rfl) (by simp) ?_
          refine AllReadyH.cons rfl (fun K hK => ?_) (AllReadyH.nil)
          obtain ⟨fd, ft, n0, n1⟩ : ∃ fd ft : Int, (w4).cell? ⟨v4.heap.size + 1, j * 2, none⟩ = some (.int .i64 fd) ∧ (w4).cell? ⟨v4.heap.size + 1, j * 2 + 1, none⟩ = some (.int .i64 ft) := by
            rcases (show j = 0 ∨ j = 1 ∨ j = 2 by omega) with rfl | rfl | rfl
            · exact ⟨_, _, by rw [HN.out.cell]; rfl, by rw [HN.out.cell]; rfl⟩
            · exact ⟨_, _, by rw [HN.out.cell]; rfl, by rw [HN.out.cell]; rfl⟩
            · exact ⟨_, _, by rw [HN.out.cell]; rfl, by rw [HN.out.cell]; rfl⟩
          go_simp
          refine hK.out _ _ (⟨HM.out, trivial⟩) (fun hHeld => ?_)
          clear hK K
          try simp only [Act.put, List.setIfInBounds_toArray, List.set_cons_zero, List.set_cons_succ]
          clear n0 n1
          refine wpAnyH_ready (rs := [12]) (by kernel_rfl) (by simp) ?_
          refine AllReadyH.cons rfl (fun K hK => ?_) AllReadyH.nil
          refine step_store_part 25 _ _ _ 0 (.agg #[.int .i64 fd, .int .i64 ft]) #[.int .i64 fd, .int .i64 ft] (Blk.kp (zk0 HK) (by omega) HG2.out) rfl rfl rfl rfl rfl (by rfl) (by kernel_rfl) (by simp [Value.oneCell']) (by simp) ?_; intro wS hBS hkb; simp only [setL, List.setIfInBounds_toArray, List.set_cons_zero, List.set_cons_succ] at hBS; have hka := zka HK hkb; have hlSo := HS.out.lt; (try replace HR1 := zb hka hkb HR1); (try replace HR2 := zb hka hkb HR2); (try replace HR3 := zb hka hkb HR3); (try replace HM := zb hka hkb HM); (try replace HG := zb hka hkb HG); (try replace HO2 := zo hka hkb HO2); (try replace HS := Lib.hid (Src.kpg2 HS.out (by repeat (with_reducible first | exact Below.refl _ _ | refine Bel.alloc ?_ _ | refine Below.drew ?_ | refine Bel.drewN ?_ _)) hkb (by omega))); replace HG2 := Lib.hid hBS; replace HK := Lib.hid (Kp.own hkb (by omega) (Kp.trans HK.out hka)); have hszS := hkb.size_; have hsyS := hka.size_; (try simp only [World.size_alloc, World.size_drew, World.heap_drewN, World.size_setCell] at hszS hsyS); clear hBS hka hkb hlSo; have hlSS := HS.out.lt
          refine hK.out _ _ (⟨HM.out, trivial⟩) (fun hHeld => ?_)
          clear hK K
          try simp only [Act.put, List.setIfInBounds_toArray, List.set_cons_zero, List.set_cons_succ]
          refine wpAnyH_done (by kernel_rfl) ?_ _
          have hYl : w2.heap.size < v4.heap.size ∧ Y3 < v4.heap.size := by omega
          exact key.out _ _ _ _ _ _ hYl HR1 HR2 HR3 HM HG HG2 HO2 HS HK
        · skip
          go_simp
          go_at_call 46; refine (l01Next_c X A zs _ (by omega) _ (zsr HS)).mono ?_; rintro e w4 ⟨x4, rfl, hx4, hy4, hd4⟩; (try rw [Int.max_eq_left (by omega)] at hy4); have hkb := hd4.kp; have hka := zka HK hkb; have hlS4 := HS.out.lt; (try replace HR1 := zb hka hkb HR1); (try replace HR2 := zb hka hkb HR2); (try replace HR3 := zb hka hkb HR3); (try replace HM := zb hka hkb HM); (try replace HG := zb hka hkb HG); (try replace HG2 := zb hka hkb HG2); (try replace HO2 := zo hka hkb HO2); replace HK := zt HK hka hkb; have hsz4 := hkb.size_; have hsy4 := hka.size_; (try simp only [World.size_alloc, World.size_drew, World.heap_drewN, World.size_setCell] at hsz4 hsy4); replace HS := Lib.hid hd4.src; clear hka hkb hd4 hlS4; have hlS4 := HS.out.lt
          refine hK.out _ _ (⟨HM.out, trivial⟩) (fun hHeld => ?_)
          clear hK K
          try simp only [Act.put, List.setIfInBounds_toArray, List.set_cons_zero, List.set_cons_succ]
          obtain ⟨j, rfl⟩ : ∃ j : Nat, x4 = j := ⟨x4.toNat, by omega⟩
          refine wpAnyH_ready (rs := [6]) (by kernel_rfl) (by simp) ?_
          refine AllReadyH.cons rfl (fun K hK => ?_) (AllReadyH.nil)
          go_simp
          have HN := Lib.hid (Blk.new w4 25 #[.int .i64 R2.cd, .int .i64 R2.ct, .int .i64 R2.dd, .int .i64 R2.dt, .int .i64 R2.dd, .int .i64 R2.dt])
          replace HR1 := Lib.hid (Blk.alloc (.cells #[.int .i64 R2.cd, .int .i64 R2.ct, .int .i64 R2.dd, .int .i64 R2.dt, .int .i64 R2.dd, .int .i64 R2.dt] 25) HR1.out)
          replace HR2 := Lib.hid (Blk.alloc (.cells #[.int .i64 R2.cd, .int .i64 R2.ct, .int .i64 R2.dd, .int .i64 R2.dt, .int .i64 R2.dd, .int .i64 R2.dt] 25) HR2.out)
          replace HR3 := Lib.hid (Blk.alloc (.cells #[.int .i64 R2.cd, .int .i64 R2.ct, .int .i64 R2.dd, .int .i64 R2.dt, .int .i64 R2.dd, .int .i64 R2.dt] 25) HR3.out)
          replace HM := Lib.hid (Blk.alloc (.cells #[.int .i64 R2.cd, .int .i64 R2.ct, .int .i64 R2.dd, .int .i64 R2.dt, .int .i64 R2.dd, .int .i64 R2.dt] 25) HM.out)
          replace HG := Lib.hid (Blk.alloc (.cells #[.int .i64 R2.cd, .int .i64 R2.ct, .int .i64 R2.dd, .int .i64 R2.dt, .int .i64 R2.dd, .int .i64 R2.dt] 25) HG.out)
          replace HG2 := Lib.hid (Blk.alloc (.cells #[.int .i64 R2.cd, .int .i64 R2.ct, .int .i64 R2.dd, .int .i64 R2.dt, .int .i64 R2.dd, .int .i64 R2.dt] 25) HG2.out)
          replace HO2 := Lib.hid (Own.alloc (.cells #[.int .i64 R2.cd, .int .i64 R2.ct, .int .i64 R2.dd, .int .i64 R2.dt, .int .i64 R2.dd, .int .i64 R2.dt] 25) HO2.out)
          replace HS := Lib.hid (Src.alloc (.cells #[.int .i64 R2.cd, .int .i64 R2.ct, .int .i64 R2.dd, .int .i64 R2.dt, .int .i64 R2.dd, .int .i64 R2.dt] 25) HS.out)
          replace HK := Lib.hid (Kp.alloc (.cells #[.int .i64 R2.cd, .int .i64 R2.ct, .int .i64 R2.dd, .int .i64 R2.dt, .int .i64 R2.dd, .int .i64 R2.dt] 25) HK.out)
          have hlN := HN.out.lt
          refine hK.out _ _ (⟨HM.out, trivial⟩) (fun hHeld => ?_)
          clear hK K
          try simp only [Act.put, List.setIfInBounds_toArray, List.set_cons_zero, List.set_cons_succ]
          refine wpAnyH_ready (rs := [9]) (by kernel_rfl) (by simp) ?_
          refine AllReadyH.cons rfl (fun K hK => ?_) (AllReadyH.nil)
          have hj3 : j < 3 := by omega
          have hj3i : ¬ (3 : Int) ≤ j := by omega
          go_simp
          refine hK.out _ _ (⟨HM.out, trivial⟩) (fun hHeld => ?_)
          clear hK K
          try simp only [Act.put, List.setIfInBounds_toArray, List.set_cons_zero, List.set_cons_succ]
          refine wpAnyH_ready (rs := [10]) (by kernel_rfl) (by simp) ?_
          refine AllReadyH.cons rfl (fun K hK => ?_) (AllReadyH.nil)
          obtain ⟨fd, ft, n0, n1⟩ : ∃ fd ft : Int, ((w4.alloc (.cells #[.int .i64 R2.cd, .int .i64 R2.ct, .int .i64 R2.dd, .int .i64 R2.dt, .int .i64 R2.dd, .int .i64 R2.dt] 25))).cell? ⟨w4.heap.size, j * 2, none⟩ = some (.int .i64 fd) ∧ ((w4.alloc (.cells #[.int .i64 R2.cd, .int .i64 R2.ct, .int .i64 R2.dd, .int .i64 R2.dt, .int .i64 R2.dd, .int .i64 R2.dt] 25))).cell? ⟨w4.heap.size, j * 2 + 1, none⟩ = some (.int .i64 ft) := by
            rcases (show j = 0 ∨ j = 1 ∨ j = 2 by omega) with rfl | rfl | rfl
            · exact ⟨_, _, by rw [HN.out.cell]; rfl, by rw [HN.out.cell]; rfl⟩
            · exact ⟨_, _, by rw [HN.out.cell]; rfl, by rw [HN.out.cell]; rfl⟩
            · exact ⟨_, _, by rw [HN.out.cell]; rfl, by rw [HN.out.cell]; rfl⟩
          go_simp
          refine hK.out _ _ (⟨HM.out, trivial⟩) (fun hHeld => ?_)
          clear hK K
          try simp only [Act.put, List.setIfInBounds_toArray, List.set_cons_zero, List.set_cons_succ]
          clear n0 n1
          refine wpAnyH_ready (rs := [12]) (by kernel_rfl) (by simp) ?_
          refine AllReadyH.cons rfl (fun K hK => ?_) AllReadyH.nil
          refine step_store_part 25 _ _ _ 0 (.agg #[.int .i64 fd, .int .i64 ft]) #[.int .i64 fd, .int .i64 ft] (Blk.kp (zk0 HK) (by omega) HG2.out) rfl rfl rfl rfl rfl (by rfl) (by kernel_rfl) (by simp [Value.oneCell']) (by simp) ?_; intro wS hBS hkb; simp only [setL, List.setIfInBounds_toArray, List.set_cons_zero, List.set_cons_succ] at hBS; have hka := zka HK hkb; have hlSo := HS.out.lt; (try replace HR1 := zb hka hkb HR1); (try replace HR2 := zb hka hkb HR2); (try replace HR3 := zb hka hkb HR3); (try replace HM := zb hka hkb HM); (try replace HG := zb hka hkb HG); (try replace HO2 := zo hka hkb HO2); (try replace HS := Lib.hid (Src.kpg2 HS.out (by repeat (with_reducible first | exact Below.refl _ _ | refine Bel.alloc ?_ _ | refine Below.drew ?_ | refine Bel.drewN ?_ _)) hkb (by omega))); replace HG2 := Lib.hid hBS; replace HK := Lib.hid (Kp.own hkb (by omega) (Kp.trans HK.out hka)); have hszS := hkb.size_; have hsyS := hka.size_; (try simp only [World.size_alloc, World.size_drew, World.heap_drewN, World.size_setCell] at hszS hsyS); clear hBS hka hkb hlSo; have hlSS := HS.out.lt
          refine hK.out _ _ (⟨HM.out, trivial⟩) (fun hHeld => ?_)
          clear hK K
          try simp only [Act.put, List.setIfInBounds_toArray, List.set_cons_zero, List.set_cons_succ]
          refine wpAnyH_done (by kernel_rfl) ?_ _
          have hYl : w2.heap.size < v4.heap.size ∧ Y3 < v4.heap.size := by omega
          exact key.out _ _ _ _ _ _ hYl HR1 HR2 HR3 HM HG HG2 HO2 HS HK
    · intro W4 Y4 Nb4 fd4 ft4 j4 hY4 HR1 HR2 HR3 HM HG HG2 HO2 HS HK
      have hlG2 := HG2.out.lt
      have g0 : W4.cell? ⟨Y3, 0, none⟩ = some (.int .i64 fd3) := by rw [HG.out.cell]; rfl
      by_cases hlt : fd3 < 9990
      rotate_left
      · skip
        go_wp2_with fail
        go_at_call 46; refine (l01Next_c X A zs _ (by omega) _ (zsr HS)).mono ?_; rintro e w7 ⟨x7, rfl, hx7, hy7, hd7⟩; (try rw [Int.max_eq_left (by omega)] at hy7); have hkb := hd7.kp; have hka := zka HK hkb; have hlS7 := HS.out.lt; (try replace HR1 := zb hka hkb HR1); (try replace HR2 := zb hka hkb HR2); (try replace HR3 := zb hka hkb HR3); (try replace HM := zb hka hkb HM); (try replace HG := zb hka hkb HG); (try replace HG2 := zb hka hkb HG2); (try replace HO2 := zo hka hkb HO2); replace HK := zt HK hka hkb; have hsz7 := hkb.size_; have hsy7 := hka.size_; (try simp only [World.size_alloc, World.size_drew, World.heap_drewN, World.size_setCell] at hsz7 hsy7); replace HS := Lib.hid hd7.src; clear hka hkb hd7 hlS7; have hlS7 := HS.out.lt
        have hlZ := HG2.out.lt
        by_cases q7 : x7 = 0
        · go_upto_region 8 with (fail)
          refine wp_region_held_drew (S := fun W => Blk W w2.heap.size 32 #[.int .i64 R2.ch.dg, .int .i64 R2.ch.tn, .string R2.ch.nm, .slice (some ⟨g2, 0, none⟩) R2.ch.zs.length c2, .int .i64 R2.ch.wd, .int .i64 R2.ch.lf, .int .i64 R2.ch.rt, .int .i64 R2.ad, .int .i64 R2.at_, .int .i64 R2.bd, .int .i64 R2.bt, .int .i64 R2.cd, .int .i64 R2.ct, .int .i64 R2.dd, .int .i64 R2.dt, .int .i64 R2.ey, .int .i64 R2.bo] ∧ Blk W Y4 25 #[.int .i64 fd4, .int .i64 ft4]) (by kernel_rfl) (⟨HM.out.drew, HG2.out.drew⟩) (fun hHeld => ?_)
          replace HR1 := Lib.hid HR1.out.drew
          replace HR2 := Lib.hid HR2.out.drew
          replace HR3 := Lib.hid HR3.out.drew
          replace HM := Lib.hid HM.out.drew
          replace HG := Lib.hid HG.out.drew
          replace HG2 := Lib.hid HG2.out.drew
          replace HO2 := Lib.hid HO2.out.drew
          replace HS := Lib.hid HS.out.drew
          replace HK := Lib.hid HK.out.drew
          have hsd : w7.drew.heap.size = w7.heap.size := rfl
          rw [← hsd] at hlZ
          clear hsd
          generalize w7.drew = v8 at HR1 HR2 HR3 HM HG HG2 HO2 HS HK hHeld hlZ ⊢
          refine wpAnyH_take (i := 0) (v := .agg #[.int .i64 R2.ch.dg, .int .i64 R2.ch.tn, .string R2.ch.nm, .slice (some ⟨g2, 0, none⟩) R2.ch.zs.length c2, .int .i64 R2.ch.wd, .int .i64 R2.ch.lf, .int .i64 R2.ch.rt, .int .i64 R2.ad, .int .i64 R2.at_, .int .i64 R2.bd, .int .i64 R2.bt, .int .i64 R2.cd, .int .i64 R2.ct, .int .i64 R2.dd, .int .i64 R2.dt, .int .i64 R2.ey, .int .i64 R2.bo]) rfl (by kernel_rfl) (by kernel_rfl) (by kernel_rfl) (fun _ _ _ h => h) (yieldsIf_load_blk 32 _ (w2.heap.size) (fun _ h => h.1) Tryz.underlying32 (by kernel_rfl) (by rfl) rfl rfl) hHeld ?_
          simp only [Act.put, List.getElem_toArray, List.getElem_cons_succ, List.getElem_cons_zero, List.setIfInBounds_toArray, List.set_cons_zero, List.set_cons_succ]
          refine wpAnyH_take (i := 1) (v := (.pointer (some ⟨X, 0, none⟩))) rfl (by kernel_rfl) (by kernel_rfl) (by kernel_rfl) (fun _ _ _ h => h) (Or.inl ⟨by rfl, fun w _ => by simp [go_sem, execOp]⟩) hHeld ?_
          simp only [Act.put, List.getElem_toArray, List.getElem_cons_succ, List.getElem_cons_zero, List.setIfInBounds_toArray, List.set_cons_zero, List.set_cons_succ]
          refine wpAnyH_take (i := 3) (v := .agg #[.int .i64 fd4, .int .i64 ft4]) rfl (by kernel_rfl) (by kernel_rfl) (by kernel_rfl) (fun _ _ _ h => h) (yieldsIf_load_blk 25 _ (Y4) (fun _ h => h.2) Tryz.underlying25 (by kernel_rfl) (by rfl) rfl rfl) hHeld ?_
          simp only [Act.put, List.getElem_toArray, List.getElem_cons_succ, List.getElem_cons_zero, List.setIfInBounds_toArray, List.set_cons_zero, List.set_cons_succ]
          refine wpAnyH_ready (rs := [2]) (by kernel_rfl) (by simp) ?_
          refine AllReadyH.cons rfl (fun K hK => ?_) AllReadyH.nil
          go_simp
          go_at_call 89; refine (l02Draw_c X A zs _ (zsr HS)).mono ?_; rintro e w8 ⟨d8, t8, rfl, ho8, hd8⟩; clear ho8; have hkb := hd8.kp; have hka := zka HK hkb; have hlS8 := HS.out.lt; (try replace HR1 := zb hka hkb HR1); (try replace HR2 := zb hka hkb HR2); (try replace HR3 := zb hka hkb HR3); (try replace HM := zb hka hkb HM); (try replace HG := zb hka hkb HG); (try replace HG2 := zb hka hkb HG2); (try replace HO2 := zo hka hkb HO2); replace HK := zt HK hka hkb; have hsz8 := hkb.size_; have hsy8 := hka.size_; (try simp only [World.size_alloc, World.size_drew, World.heap_drewN, World.size_setCell] at hsz8 hsy8); replace HS := Lib.hid hd8.src; clear hka hkb hd8 hlS8; have hlS8 := HS.out.lt
          go_wp2_with fail
          refine hK.out _ _ (⟨HM.out, HG2.out⟩) (fun hHeld => ?_)
          clear hK K
          try simp only [Act.put, List.setIfInBounds_toArray, List.set_cons_zero, List.set_cons_succ]
          refine wpAnyH_ready (rs := [4]) (by kernel_rfl) (by simp) ?_
          refine AllReadyH.cons rfl (fun K hK => ?_) AllReadyH.nil
          refine step_store_part 32 _ _ _ 0 (.agg #[.int .i64 R2.ch.dg, .int .i64 R2.ch.tn, .string R2.ch.nm, .slice (some ⟨g2, 0, none⟩) R2.ch.zs.length c2, .int .i64 R2.ch.wd, .int .i64 R2.ch.lf, .int .i64 R2.ch.rt, .int .i64 R2.ad, .int .i64 R2.at_, .int .i64 R2.bd, .int .i64 R2.bt, .int .i64 R2.cd, .int .i64 R2.ct, .int .i64 R2.dd, .int .i64 R2.dt, .int .i64 R2.ey, .int .i64 R2.bo]) #[.int .i64 R2.ch.dg, .int .i64 R2.ch.tn, .string R2.ch.nm, .slice (some ⟨g2, 0, none⟩) R2.ch.zs.length c2, .int .i64 R2.ch.wd, .int .i64 R2.ch.lf, .int .i64 R2.ch.rt, .int .i64 R2.ad, .int .i64 R2.at_, .int .i64 R2.bd, .int .i64 R2.bt, .int .i64 R2.cd, .int .i64 R2.ct, .int .i64 R2.dd, .int .i64 R2.dt, .int .i64 R2.ey, .int .i64 R2.bo] (Blk.kp (zk0 HK) (by omega) HR1.out) rfl rfl rfl rfl rfl (by rfl) (by kernel_rfl) (by simp [Value.oneCell']) (by simp) ?_; intro wS hBS hkb; simp only [setL, List.setIfInBounds_toArray, List.set_cons_zero, List.set_cons_succ] at hBS; have hka := zka HK hkb; have hlSo := HS.out.lt; (try replace HM := zb hka hkb HM); (try replace HG := zb hka hkb HG); (try replace HG2 := zb hka hkb HG2); (try replace HR2 := zb hka hkb HR2); (try replace HR3 := zb hka hkb HR3); (try replace HO2 := zo hka hkb HO2); (try replace HS := Lib.hid (Src.kpg2 HS.out (by repeat (with_reducible first | exact Below.refl _ _ | refine Bel.alloc ?_ _ | refine Below.drew ?_ | refine Bel.drewN ?_ _)) hkb (by omega))); replace HR1 := Lib.hid hBS; replace HK := Lib.hid (Kp.own hkb (by omega) (Kp.trans HK.out hka)); have hszS := hkb.size_; have hsyS := hka.size_; (try simp only [World.size_alloc, World.size_drew, World.heap_drewN, World.size_setCell] at hszS hsyS); clear hBS hka hkb hlSo; have hlSS := HS.out.lt
          refine hK.out _ _ (⟨HM.out, HG2.out⟩) (fun hHeld => ?_)
          clear hK K
          try simp only [Act.put, List.setIfInBounds_toArray, List.set_cons_zero, List.set_cons_succ]
          refine wpAnyH_ready (rs := [5]) (by kernel_rfl) (by simp) ?_
          refine AllReadyH.cons rfl (fun K hK => ?_) AllReadyH.nil
          refine step_store_part 25 _ _ _ 0 (.agg #[.int .i64 d8, .int .i64 t8]) #[.int .i64 d8, .int .i64 t8] (Blk.kp (zk0 HK) (by omega) HR2.out) rfl rfl rfl rfl rfl (by rfl) (by kernel_rfl) (by simp [Value.oneCell']) (by simp) ?_; intro wS hBS hkb; simp only [setL, List.setIfInBounds_toArray, List.set_cons_zero, List.set_cons_succ] at hBS; have hka := zka HK hkb; have hlSo := HS.out.lt; (try replace HM := zb hka hkb HM); (try replace HG := zb hka hkb HG); (try replace HG2 := zb hka hkb HG2); (try replace HR1 := zb hka hkb HR1); (try replace HR3 := zb hka hkb HR3); (try replace HO2 := zo hka hkb HO2); (try replace HS := Lib.hid (Src.kpg2 HS.out (by repeat (with_reducible first | exact Below.refl _ _ | refine Bel.alloc ?_ _ | refine Below.drew ?_ | refine Bel.drewN ?_ _)) hkb (by omega))); replace HR2 := Lib.hid hBS; replace HK := Lib.hid (Kp.own hkb (by omega) (Kp.trans HK.out hka)); have hszS := hkb.size_; have hsyS := hka.size_; (try simp only [World.size_alloc, World.size_drew, World.heap_drewN, World.size_setCell] at hszS hsyS); clear hBS hka hkb hlSo; have hlSS := HS.out.lt
          refine hK.out _ _ (⟨HM.out, HG2.out⟩) (fun hHeld => ?_)
          clear hK K
          try simp only [Act.put, List.setIfInBounds_toArray, List.set_cons_zero, List.set_cons_succ]
          refine wpAnyH_ready (rs := [6]) (by kernel_rfl) (by simp) ?_
          refine AllReadyH.cons rfl (fun K hK => ?_) AllReadyH.nil
          refine step_store_part 25 _ _ _ 0 (.agg #[.int .i64 fd4, .int .i64 ft4]) #[.int .i64 fd4, .int .i64 ft4] (Blk.kp (zk0 HK) (by omega) HR3.out) rfl rfl rfl rfl rfl (by rfl) (by kernel_rfl) (by simp [Value.oneCell']) (by simp) ?_; intro wS hBS hkb; simp only [setL, List.setIfInBounds_toArray, List.set_cons_zero, List.set_cons_succ] at hBS; have hka := zka HK hkb; have hlSo := HS.out.lt; (try replace HM := zb hka hkb HM); (try replace HG := zb hka hkb HG); (try replace HG2 := zb hka hkb HG2); (try replace HR1 := zb hka hkb HR1); (try replace HR2 := zb hka hkb HR2); (try replace HO2 := zo hka hkb HO2); (try replace HS := Lib.hid (Src.kpg2 HS.out (by repeat (with_reducible first | exact Below.refl _ _ | refine Bel.alloc ?_ _ | refine Below.drew ?_ | refine Bel.drewN ?_ _)) hkb (by omega))); replace HR3 := Lib.hid hBS; replace HK := Lib.hid (Kp.own hkb (by omega) (Kp.trans HK.out hka)); have hszS := hkb.size_; have hsyS := hka.size_; (try simp only [World.size_alloc, World.size_drew, World.heap_drewN, World.size_setCell] at hszS hsyS); clear hBS hka hkb hlSo; have hlSS := HS.out.lt
          refine hK.out _ _ (⟨HM.out, HG2.out⟩) (fun hHeld => ?_)
          clear hK K
          try simp only [Act.put, List.setIfInBounds_toArray, List.set_cons_zero, List.set_cons_succ]
          refine wpAnyH_done (by kernel_rfl) ?_ _
          go_wp2
          exact bodyPost_ret (results_3 rfl (resF_cell HR1.out Tryz.underlying32 (by kernel_rfl) rfl) (resF_cell HR2.out Tryz.underlying25 (by kernel_rfl) rfl) (resF_cell HR3.out Tryz.underlying25 (by kernel_rfl) rfl)) rfl ⟨R2, g2, c2, d8, t8, fd4, ft4, rfl, by omega, by omega, Own.ge_mono HO2.out (by omega), Kp.toBel HK.out (by omega)⟩
        · go_upto_region 9 with (fail)
          refine wp_region_held_drew (S := fun W => Blk W w2.heap.size 32 #[.int .i64 R2.ch.dg, .int .i64 R2.ch.tn, .string R2.ch.nm, .slice (some ⟨g2, 0, none⟩) R2.ch.zs.length c2, .int .i64 R2.ch.wd, .int .i64 R2.ch.lf, .int .i64 R2.ch.rt, .int .i64 R2.ad, .int .i64 R2.at_, .int .i64 R2.bd, .int .i64 R2.bt, .int .i64 R2.cd, .int .i64 R2.ct, .int .i64 R2.dd, .int .i64 R2.dt, .int .i64 R2.ey, .int .i64 R2.bo] ∧ Blk W Y3 25 #[.int .i64 fd3, .int .i64 ft3] ∧ Blk W Y4 25 #[.int .i64 fd4, .int .i64 ft4]) (by kernel_rfl) (⟨HM.out.drew, HG.out.drew, HG2.out.drew⟩) (fun hHeld => ?_)
          replace HR1 := Lib.hid HR1.out.drew
          replace HR2 := Lib.hid HR2.out.drew
          replace HR3 := Lib.hid HR3.out.drew
          replace HM := Lib.hid HM.out.drew
          replace HG := Lib.hid HG.out.drew
          replace HG2 := Lib.hid HG2.out.drew
          replace HO2 := Lib.hid HO2.out.drew
          replace HS := Lib.hid HS.out.drew
          replace HK := Lib.hid HK.out.drew
          have hsd : w7.drew.heap.size = w7.heap.size := rfl
          rw [← hsd] at hlZ
          clear hsd
          generalize w7.drew = v9 at HR1 HR2 HR3 HM HG HG2 HO2 HS HK hHeld hlZ ⊢
          refine wpAnyH_take (i := 0) (v := .agg #[.int .i64 R2.ch.dg, .int .i64 R2.ch.tn, .string R2.ch.nm, .slice (some ⟨g2, 0, none⟩) R2.ch.zs.length c2, .int .i64 R2.ch.wd, .int .i64 R2.ch.lf, .int .i64 R2.ch.rt, .int .i64 R2.ad, .int .i64 R2.at_, .int .i64 R2.bd, .int .i64 R2.bt, .int .i64 R2.cd, .int .i64 R2.ct, .int .i64 R2.dd, .int .i64 R2.dt, .int .i64 R2.ey, .int .i64 R2.bo]) rfl (by kernel_rfl) (by kernel_rfl) (by kernel_rfl) (fun _ _ _ h => h) (yieldsIf_load_blk 32 _ (w2.heap.size) (fun _ h => h.1) Tryz.underlying32 (by kernel_rfl) (by rfl) rfl rfl) hHeld ?_
          simp only [Act.put, List.getElem_toArray, List.getElem_cons_succ, List.getElem_cons_zero, List.setIfInBounds_toArray, List.set_cons_zero, List.set_cons_succ]
          refine wpAnyH_take (i := 1) (v := .agg #[.int .i64 fd3, .int .i64 ft3]) rfl (by kernel_rfl) (by kernel_rfl) (by kernel_rfl) (fun _ _ _ h => h) (yieldsIf_load_blk 25 _ (Y3) (fun _ h => h.2.1) Tryz.underlying25 (by kernel_rfl) (by rfl) rfl rfl) hHeld ?_
          simp only [Act.put, List.getElem_toArray, List.getElem_cons_succ, List.getElem_cons_zero, List.setIfInBounds_toArray, List.set_cons_zero, List.set_cons_succ]
          refine wpAnyH_take (i := 2) (v := .agg #[.int .i64 fd4, .int .i64 ft4]) rfl (by kernel_rfl) (by kernel_rfl) (by kernel_rfl) (fun _ _ _ h => h) (yieldsIf_load_blk 25 _ (Y4) (fun _ h => h.2.2) Tryz.underlying25 (by kernel_rfl) (by rfl) rfl rfl) hHeld ?_
          simp only [Act.put, List.getElem_toArray, List.getElem_cons_succ, List.getElem_cons_zero, List.setIfInBounds_toArray, List.set_cons_zero, List.set_cons_succ]
          refine wpAnyH_ready (rs := [3]) (by kernel_rfl) (by simp) ?_
          refine AllReadyH.cons rfl (fun K hK => ?_) AllReadyH.nil
          refine step_store_part 32 _ _ _ 0 (.agg #[.int .i64 R2.ch.dg, .int .i64 R2.ch.tn, .string R2.ch.nm, .slice (some ⟨g2, 0, none⟩) R2.ch.zs.length c2, .int .i64 R2.ch.wd, .int .i64 R2.ch.lf, .int .i64 R2.ch.rt, .int .i64 R2.ad, .int .i64 R2.at_, .int .i64 R2.bd, .int .i64 R2.bt, .int .i64 R2.cd, .int .i64 R2.ct, .int .i64 R2.dd, .int .i64 R2.dt, .int .i64 R2.ey, .int .i64 R2.bo]) #[.int .i64 R2.ch.dg, .int .i64 R2.ch.tn, .string R2.ch.nm, .slice (some ⟨g2, 0, none⟩) R2.ch.zs.length c2, .int .i64 R2.ch.wd, .int .i64 R2.ch.lf, .int .i64 R2.ch.rt, .int .i64 R2.ad, .int .i64 R2.at_, .int .i64 R2.bd, .int .i64 R2.bt, .int .i64 R2.cd, .int .i64 R2.ct, .int .i64 R2.dd, .int .i64 R2.dt, .int .i64 R2.ey, .int .i64 R2.bo] (Blk.kp (zk0 HK) (by omega) HR1.out) rfl rfl rfl rfl rfl (by rfl) (by kernel_rfl) (by simp [Value.oneCell']) (by simp) ?_; intro wS hBS hkb; simp only [setL, List.setIfInBounds_toArray, List.set_cons_zero, List.set_cons_succ] at hBS; have hka := zka HK hkb; have hlSo := HS.out.lt; (try replace HM := zb hka hkb HM); (try replace HG := zb hka hkb HG); (try replace HG2 := zb hka hkb HG2); (try replace HR2 := zb hka hkb HR2); (try replace HR3 := zb hka hkb HR3); (try replace HO2 := zo hka hkb HO2); (try replace HS := Lib.hid (Src.kpg2 HS.out (by repeat (with_reducible first | exact Below.refl _ _ | refine Bel.alloc ?_ _ | refine Below.drew ?_ | refine Bel.drewN ?_ _)) hkb (by omega))); replace HR1 := Lib.hid hBS; replace HK := Lib.hid (Kp.own hkb (by omega) (Kp.trans HK.out hka)); have hszS := hkb.size_; have hsyS := hka.size_; (try simp only [World.size_alloc, World.size_drew, World.heap_drewN, World.size_setCell] at hszS hsyS); clear hBS hka hkb hlSo; have hlSS := HS.out.lt
          refine hK.out _ _ (⟨HM.out, HG.out, HG2.out⟩) (fun hHeld => ?_)
          clear hK K
          try simp only [Act.put, List.setIfInBounds_toArray, List.set_cons_zero, List.set_cons_succ]
          refine wpAnyH_ready (rs := [4]) (by kernel_rfl) (by simp) ?_
          refine AllReadyH.cons rfl (fun K hK => ?_) AllReadyH.nil
          refine step_store_part 25 _ _ _ 0 (.agg #[.int .i64 fd3, .int .i64 ft3]) #[.int .i64 fd3, .int .i64 ft3] (Blk.kp (zk0 HK) (by omega) HR2.out) rfl rfl rfl rfl rfl (by rfl) (by kernel_rfl) (by simp [Value.oneCell']) (by simp) ?_; intro wS hBS hkb; simp only [setL, List.setIfInBounds_toArray, List.set_cons_zero, List.set_cons_succ] at hBS; have hka := zka HK hkb; have hlSo := HS.out.lt; (try replace HM := zb hka hkb HM); (try replace HG := zb hka hkb HG); (try replace HG2 := zb hka hkb HG2); (try replace HR1 := zb hka hkb HR1); (try replace HR3 := zb hka hkb HR3); (try replace HO2 := zo hka hkb HO2); (try replace HS := Lib.hid (Src.kpg2 HS.out (by repeat (with_reducible first | exact Below.refl _ _ | refine Bel.alloc ?_ _ | refine Below.drew ?_ | refine Bel.drewN ?_ _)) hkb (by omega))); replace HR2 := Lib.hid hBS; replace HK := Lib.hid (Kp.own hkb (by omega) (Kp.trans HK.out hka)); have hszS := hkb.size_; have hsyS := hka.size_; (try simp only [World.size_alloc, World.size_drew, World.heap_drewN, World.size_setCell] at hszS hsyS); clear hBS hka hkb hlSo; have hlSS := HS.out.lt
          refine hK.out _ _ (⟨HM.out, HG.out, HG2.out⟩) (fun hHeld => ?_)
          clear hK K
          try simp only [Act.put, List.setIfInBounds_toArray, List.set_cons_zero, List.set_cons_succ]
          refine wpAnyH_ready (rs := [5]) (by kernel_rfl) (by simp) ?_
          refine AllReadyH.cons rfl (fun K hK => ?_) AllReadyH.nil
          refine step_store_part 25 _ _ _ 0 (.agg #[.int .i64 fd4, .int .i64 ft4]) #[.int .i64 fd4, .int .i64 ft4] (Blk.kp (zk0 HK) (by omega) HR3.out) rfl rfl rfl rfl rfl (by rfl) (by kernel_rfl) (by simp [Value.oneCell']) (by simp) ?_; intro wS hBS hkb; simp only [setL, List.setIfInBounds_toArray, List.set_cons_zero, List.set_cons_succ] at hBS; have hka := zka HK hkb; have hlSo := HS.out.lt; (try replace HM := zb hka hkb HM); (try replace HG := zb hka hkb HG); (try replace HG2 := zb hka hkb HG2); (try replace HR1 := zb hka hkb HR1); (try replace HR2 := zb hka hkb HR2); (try replace HO2 := zo hka hkb HO2); (try replace HS := Lib.hid (Src.kpg2 HS.out (by repeat (with_reducible first | exact Below.refl _ _ | refine Bel.alloc ?_ _ | refine Below.drew ?_ | refine Bel.drewN ?_ _)) hkb (by omega))); replace HR3 := Lib.hid hBS; replace HK := Lib.hid (Kp.own hkb (by omega) (Kp.trans HK.out hka)); have hszS := hkb.size_; have hsyS := hka.size_; (try simp only [World.size_alloc, World.size_drew, World.heap_drewN, World.size_setCell] at hszS hsyS); clear hBS hka hkb hlSo; have hlSS := HS.out.lt
          refine hK.out _ _ (⟨HM.out, HG.out, HG2.out⟩) (fun hHeld => ?_)
          clear hK K
          try simp only [Act.put, List.setIfInBounds_toArray, List.set_cons_zero, List.set_cons_succ]
          refine wpAnyH_done (by kernel_rfl) ?_ _
          go_wp2
          exact bodyPost_ret (results_3 rfl (resF_cell HR1.out Tryz.underlying32 (by kernel_rfl) rfl) (resF_cell HR2.out Tryz.underlying25 (by kernel_rfl) rfl) (resF_cell HR3.out Tryz.underlying25 (by kernel_rfl) rfl)) rfl ⟨R2, g2, c2, fd3, ft3, fd4, ft4, rfl, by omega, by omega, Own.ge_mono HO2.out (by omega), Kp.toBel HK.out (by omega)⟩
      go_wp2_with fail
      go_at_call 46; refine (l01Next_c X A zs _ (by omega) _ (zsr HS)).mono ?_; rintro e w5 ⟨x5, rfl, hx5, hy5, hd5⟩; (try rw [Int.max_eq_left (by omega)] at hy5); have hkb := hd5.kp; have hka := zka HK hkb; have hlS5 := HS.out.lt; (try replace HR1 := zb hka hkb HR1); (try replace HR2 := zb hka hkb HR2); (try replace HR3 := zb hka hkb HR3); (try replace HM := zb hka hkb HM); (try replace HG := zb hka hkb HG); (try replace HG2 := zb hka hkb HG2); (try replace HO2 := zo hka hkb HO2); replace HK := zt HK hka hkb; have hsz5 := hkb.size_; have hsy5 := hka.size_; (try simp only [World.size_alloc, World.size_drew, World.heap_drewN, World.size_setCell] at hsz5 hsy5); replace HS := Lib.hid hd5.src; clear hka hkb hd5 hlS5; have hlS5 := HS.out.lt
      clear g0
      by_cases q5 : x5 = 0
      rotate_left
      · skip
        go_wp2_with fail
        go_at_call 46; refine (l01Next_c X A zs _ (by omega) _ (zsr HS)).mono ?_; rintro e w7 ⟨x7, rfl, hx7, hy7, hd7⟩; (try rw [Int.max_eq_left (by omega)] at hy7); have hkb := hd7.kp; have hka := zka HK hkb; have hlS7 := HS.out.lt; (try replace HR1 := zb hka hkb HR1); (try replace HR2 := zb hka hkb HR2); (try replace HR3 := zb hka hkb HR3); (try replace HM := zb hka hkb HM); (try replace HG := zb hka hkb HG); (try replace HG2 := zb hka hkb HG2); (try replace HO2 := zo hka hkb HO2); replace HK := zt HK hka hkb; have hsz7 := hkb.size_; have hsy7 := hka.size_; (try simp only [World.size_alloc, World.size_drew, World.heap_drewN, World.size_setCell] at hsz7 hsy7); replace HS := Lib.hid hd7.src; clear hka hkb hd7 hlS7; have hlS7 := HS.out.lt
        have hlZ := HG2.out.lt
        by_cases q7 : x7 = 0
        · go_upto_region 8 with (fail)
          refine wp_region_held_drew (S := fun W => Blk W w2.heap.size 32 #[.int .i64 R2.ch.dg, .int .i64 R2.ch.tn, .string R2.ch.nm, .slice (some ⟨g2, 0, none⟩) R2.ch.zs.length c2, .int .i64 R2.ch.wd, .int .i64 R2.ch.lf, .int .i64 R2.ch.rt, .int .i64 R2.ad, .int .i64 R2.at_, .int .i64 R2.bd, .int .i64 R2.bt, .int .i64 R2.cd, .int .i64 R2.ct, .int .i64 R2.dd, .int .i64 R2.dt, .int .i64 R2.ey, .int .i64 R2.bo] ∧ Blk W Y4 25 #[.int .i64 fd4, .int .i64 ft4]) (by kernel_rfl) (⟨HM.out.drew, HG2.out.drew⟩) (fun hHeld => ?_)
          replace HR1 := Lib.hid HR1.out.drew
          replace HR2 := Lib.hid HR2.out.drew
          replace HR3 := Lib.hid HR3.out.drew
          replace HM := Lib.hid HM.out.drew
          replace HG := Lib.hid HG.out.drew
          replace HG2 := Lib.hid HG2.out.drew
          replace HO2 := Lib.hid HO2.out.drew
          replace HS := Lib.hid HS.out.drew
          replace HK := Lib.hid HK.out.drew
          have hsd : w7.drew.heap.size = w7.heap.size := rfl
          rw [← hsd] at hlZ
          clear hsd
          generalize w7.drew = v8 at HR1 HR2 HR3 HM HG HG2 HO2 HS HK hHeld hlZ ⊢
          refine wpAnyH_take (i := 0) (v := .agg #[.int .i64 R2.ch.dg, .int .i64 R2.ch.tn, .string R2.ch.nm, .slice (some ⟨g2, 0, none⟩) R2.ch.zs.length c2, .int .i64 R2.ch.wd, .int .i64 R2.ch.lf, .int .i64 R2.ch.rt, .int .i64 R2.ad, .int .i64 R2.at_, .int .i64 R2.bd, .int .i64 R2.bt, .int .i64 R2.cd, .int .i64 R2.ct, .int .i64 R2.dd, .int .i64 R2.dt, .int .i64 R2.ey, .int .i64 R2.bo]) rfl (by kernel_rfl) (by kernel_rfl) (by kernel_rfl) (fun _ _ _ h => h) (yieldsIf_load_blk 32 _ (w2.heap.size) (fun _ h => h.1) Tryz.underlying32 (by kernel_rfl) (by rfl) rfl rfl) hHeld ?_
          simp only [Act.put, List.getElem_toArray, List.getElem_cons_succ, List.getElem_cons_zero, List.setIfInBounds_toArray, List.set_cons_zero, List.set_cons_succ]
          refine wpAnyH_take (i := 1) (v := (.pointer (some ⟨X, 0, none⟩))) rfl (by kernel_rfl) (by kernel_rfl) (by kernel_rfl) (fun _ _ _ h => h) (Or.inl ⟨by rfl, fun w _ => by simp [go_sem, execOp]⟩) hHeld ?_
          simp only [Act.put, List.getElem_toArray, List.getElem_cons_succ, List.getElem_cons_zero, List.setIfInBounds_toArray, List.set_cons_zero, List.set_cons_succ]
          refine wpAnyH_take (i := 3) (v := .agg #[.int .i64 fd4, .int .i64 ft4]) rfl (by kernel_rfl) (by kernel_rfl) (by kernel_rfl) (fun _ _ _ h => h) (yieldsIf_load_blk 25 _ (Y4) (fun _ h => h.2) Tryz.underlying25 (by kernel_rfl) (by rfl) rfl rfl) hHeld ?_
          simp only [Act.put, List.getElem_toArray, List.getElem_cons_succ, List.getElem_cons_zero, List.setIfInBounds_toArray, List.set_cons_zero, List.set_cons_succ]
          refine wpAnyH_ready (rs := [2]) (by kernel_rfl) (by simp) ?_
          refine AllReadyH.cons rfl (fun K hK => ?_) AllReadyH.nil
          go_simp
          go_at_call 89; refine (l02Draw_c X A zs _ (zsr HS)).mono ?_; rintro e w8 ⟨d8, t8, rfl, ho8, hd8⟩; clear ho8; have hkb := hd8.kp; have hka := zka HK hkb; have hlS8 := HS.out.lt; (try replace HR1 := zb hka hkb HR1); (try replace HR2 := zb hka hkb HR2); (try replace HR3 := zb hka hkb HR3); (try replace HM := zb hka hkb HM); (try replace HG := zb hka hkb HG); (try replace HG2 := zb hka hkb HG2); (try replace HO2 := zo hka hkb HO2); replace HK := zt HK hka hkb; have hsz8 := hkb.size_; have hsy8 := hka.size_; (try simp only [World.size_alloc, World.size_drew, World.heap_drewN, World.size_setCell] at hsz8 hsy8); replace HS := Lib.hid hd8.src; clear hka hkb hd8 hlS8; have hlS8 := HS.out.lt
          go_wp2_with fail
          refine hK.out _ _ (⟨HM.out, HG2.out⟩) (fun hHeld => ?_)
          clear hK K
          try simp only [Act.put, List.setIfInBounds_toArray, List.set_cons_zero, List.set_cons_succ]
          refine wpAnyH_ready (rs := [4]) (by kernel_rfl) (by simp) ?_
          refine AllReadyH.cons rfl (fun K hK => ?_) AllReadyH.nil
          refine step_store_part 32 _ _ _ 0 (.agg #[.int .i64 R2.ch.dg, .int .i64 R2.ch.tn, .string R2.ch.nm, .slice (some ⟨g2, 0, none⟩) R2.ch.zs.length c2, .int .i64 R2.ch.wd, .int .i64 R2.ch.lf, .int .i64 R2.ch.rt, .int .i64 R2.ad, .int .i64 R2.at_, .int .i64 R2.bd, .int .i64 R2.bt, .int .i64 R2.cd, .int .i64 R2.ct, .int .i64 R2.dd, .int .i64 R2.dt, .int .i64 R2.ey, .int .i64 R2.bo]) #[.int .i64 R2.ch.dg, .int .i64 R2.ch.tn, .string R2.ch.nm, .slice (some ⟨g2, 0, none⟩) R2.ch.zs.length c2, .int .i64 R2.ch.wd, .int .i64 R2.ch.lf, .int .i64 R2.ch.rt, .int .i64 R2.ad, .int .i64 R2.at_, .int .i64 R2.bd, .int .i64 R2.bt, .int .i64 R2.cd, .int .i64 R2.ct, .int .i64 R2.dd, .int .i64 R2.dt, .int .i64 R2.ey, .int .i64 R2.bo] (Blk.kp (zk0 HK) (by omega) HR1.out) rfl rfl rfl rfl rfl (by rfl) (by kernel_rfl) (by simp [Value.oneCell']) (by simp) ?_; intro wS hBS hkb; simp only [setL, List.setIfInBounds_toArray, List.set_cons_zero, List.set_cons_succ] at hBS; have hka := zka HK hkb; have hlSo := HS.out.lt; (try replace HM := zb hka hkb HM); (try replace HG := zb hka hkb HG); (try replace HG2 := zb hka hkb HG2); (try replace HR2 := zb hka hkb HR2); (try replace HR3 := zb hka hkb HR3); (try replace HO2 := zo hka hkb HO2); (try replace HS := Lib.hid (Src.kpg2 HS.out (by repeat (with_reducible first | exact Below.refl _ _ | refine Bel.alloc ?_ _ | refine Below.drew ?_ | refine Bel.drewN ?_ _)) hkb (by omega))); replace HR1 := Lib.hid hBS; replace HK := Lib.hid (Kp.own hkb (by omega) (Kp.trans HK.out hka)); have hszS := hkb.size_; have hsyS := hka.size_; (try simp only [World.size_alloc, World.size_drew, World.heap_drewN, World.size_setCell] at hszS hsyS); clear hBS hka hkb hlSo; have hlSS := HS.out.lt
          refine hK.out _ _ (⟨HM.out, HG2.out⟩) (fun hHeld => ?_)
          clear hK K
          try simp only [Act.put, List.setIfInBounds_toArray, List.set_cons_zero, List.set_cons_succ]
          refine wpAnyH_ready (rs := [5]) (by kernel_rfl) (by simp) ?_
          refine AllReadyH.cons rfl (fun K hK => ?_) AllReadyH.nil
          refine step_store_part 25 _ _ _ 0 (.agg #[.int .i64 d8, .int .i64 t8]) #[.int .i64 d8, .int .i64 t8] (Blk.kp (zk0 HK) (by omega) HR2.out) rfl rfl rfl rfl rfl (by rfl) (by kernel_rfl) (by simp [Value.oneCell']) (by simp) ?_; intro wS hBS hkb; simp only [setL, List.setIfInBounds_toArray, List.set_cons_zero, List.set_cons_succ] at hBS; have hka := zka HK hkb; have hlSo := HS.out.lt; (try replace HM := zb hka hkb HM); (try replace HG := zb hka hkb HG); (try replace HG2 := zb hka hkb HG2); (try replace HR1 := zb hka hkb HR1); (try replace HR3 := zb hka hkb HR3); (try replace HO2 := zo hka hkb HO2); (try replace HS := Lib.hid (Src.kpg2 HS.out (by repeat (with_reducible first | exact Below.refl _ _ | refine Bel.alloc ?_ _ | refine Below.drew ?_ | refine Bel.drewN ?_ _)) hkb (by omega))); replace HR2 := Lib.hid hBS; replace HK := Lib.hid (Kp.own hkb (by omega) (Kp.trans HK.out hka)); have hszS := hkb.size_; have hsyS := hka.size_; (try simp only [World.size_alloc, World.size_drew, World.heap_drewN, World.size_setCell] at hszS hsyS); clear hBS hka hkb hlSo; have hlSS := HS.out.lt
          refine hK.out _ _ (⟨HM.out, HG2.out⟩) (fun hHeld => ?_)
          clear hK K
          try simp only [Act.put, List.setIfInBounds_toArray, List.set_cons_zero, List.set_cons_succ]
          refine wpAnyH_ready (rs := [6]) (by kernel_rfl) (by simp) ?_
          refine AllReadyH.cons rfl (fun K hK => ?_) AllReadyH.nil
          refine step_store_part 25 _ _ _ 0 (.agg #[.int .i64 fd4, .int .i64 ft4]) #[.int .i64 fd4, .int .i64 ft4] (Blk.kp (zk0 HK) (by omega) HR3.out) rfl rfl rfl rfl rfl (by rfl) (by kernel_rfl) (by simp [Value.oneCell']) (by simp) ?_; intro wS hBS hkb; simp only [setL, List.setIfInBounds_toArray, List.set_cons_zero, List.set_cons_succ] at hBS; have hka := zka HK hkb; have hlSo := HS.out.lt; (try replace HM := zb hka hkb HM); (try replace HG := zb hka hkb HG); (try replace HG2 := zb hka hkb HG2); (try replace HR1 := zb hka hkb HR1); (try replace HR2 := zb hka hkb HR2); (try replace HO2 := zo hka hkb HO2); (try replace HS := Lib.hid (Src.kpg2 HS.out (by repeat (with_reducible first | exact Below.refl _ _ | refine Bel.alloc ?_ _ | refine Below.drew ?_ | refine Bel.drewN ?_ _)) hkb (by omega))); replace HR3 := Lib.hid hBS; replace HK := Lib.hid (Kp.own hkb (by omega) (Kp.trans HK.out hka)); have hszS := hkb.size_; have hsyS := hka.size_; (try simp only [World.size_alloc, World.size_drew, World.heap_drewN, World.size_setCell] at hszS hsyS); clear hBS hka hkb hlSo; have hlSS := HS.out.lt
          refine hK.out _ _ (⟨HM.out, HG2.out⟩) (fun hHeld => ?_)
          clear hK K
          try simp only [Act.put, List.setIfInBounds_toArray, List.set_cons_zero, List.set_cons_succ]
          refine wpAnyH_done (by kernel_rfl) ?_ _
          go_wp2
          exact bodyPost_ret (results_3 rfl (resF_cell HR1.out Tryz.underlying32 (by kernel_rfl) rfl) (resF_cell HR2.out Tryz.underlying25 (by kernel_rfl) rfl) (resF_cell HR3.out Tryz.underlying25 (by kernel_rfl) rfl)) rfl ⟨R2, g2, c2, d8, t8, fd4, ft4, rfl, by omega, by omega, Own.ge_mono HO2.out (by omega), Kp.toBel HK.out (by omega)⟩
        · go_upto_region 9 with (fail)
          refine wp_region_held_drew (S := fun W => Blk W w2.heap.size 32 #[.int .i64 R2.ch.dg, .int .i64 R2.ch.tn, .string R2.ch.nm, .slice (some ⟨g2, 0, none⟩) R2.ch.zs.length c2, .int .i64 R2.ch.wd, .int .i64 R2.ch.lf, .int .i64 R2.ch.rt, .int .i64 R2.ad, .int .i64 R2.at_, .int .i64 R2.bd, .int .i64 R2.bt, .int .i64 R2.cd, .int .i64 R2.ct, .int .i64 R2.dd, .int .i64 R2.dt, .int .i64 R2.ey, .int .i64 R2.bo] ∧ Blk W Y3 25 #[.int .i64 fd3, .int .i64 ft3] ∧ Blk W Y4 25 #[.int .i64 fd4, .int .i64 ft4]) (by kernel_rfl) (⟨HM.out.drew, HG.out.drew, HG2.out.drew⟩) (fun hHeld => ?_)
          replace HR1 := Lib.hid HR1.out.drew
          replace HR2 := Lib.hid HR2.out.drew
          replace HR3 := Lib.hid HR3.out.drew
          replace HM := Lib.hid HM.out.drew
          replace HG := Lib.hid HG.out.drew
          replace HG2 := Lib.hid HG2.out.drew
          replace HO2 := Lib.hid HO2.out.drew
          replace HS := Lib.hid HS.out.drew
          replace HK := Lib.hid HK.out.drew
          have hsd : w7.drew.heap.size = w7.heap.size := rfl
          rw [← hsd] at hlZ
          clear hsd
          generalize w7.drew = v9 at HR1 HR2 HR3 HM HG HG2 HO2 HS HK hHeld hlZ ⊢
          refine wpAnyH_take (i := 0) (v := .agg #[.int .i64 R2.ch.dg, .int .i64 R2.ch.tn, .string R2.ch.nm, .slice (some ⟨g2, 0, none⟩) R2.ch.zs.length c2, .int .i64 R2.ch.wd, .int .i64 R2.ch.lf, .int .i64 R2.ch.rt, .int .i64 R2.ad, .int .i64 R2.at_, .int .i64 R2.bd, .int .i64 R2.bt, .int .i64 R2.cd, .int .i64 R2.ct, .int .i64 R2.dd, .int .i64 R2.dt, .int .i64 R2.ey, .int .i64 R2.bo]) rfl (by kernel_rfl) (by kernel_rfl) (by kernel_rfl) (fun _ _ _ h => h) (yieldsIf_load_blk 32 _ (w2.heap.size) (fun _ h => h.1) Tryz.underlying32 (by kernel_rfl) (by rfl) rfl rfl) hHeld ?_
          simp only [Act.put, List.getElem_toArray, List.getElem_cons_succ, List.getElem_cons_zero, List.setIfInBounds_toArray, List.set_cons_zero, List.set_cons_succ]
          refine wpAnyH_take (i := 1) (v := .agg #[.int .i64 fd3, .int .i64 ft3]) rfl (by kernel_rfl) (by kernel_rfl) (by kernel_rfl) (fun _ _ _ h => h) (yieldsIf_load_blk 25 _ (Y3) (fun _ h => h.2.1) Tryz.underlying25 (by kernel_rfl) (by rfl) rfl rfl) hHeld ?_
          simp only [Act.put, List.getElem_toArray, List.getElem_cons_succ, List.getElem_cons_zero, List.setIfInBounds_toArray, List.set_cons_zero, List.set_cons_succ]
          refine wpAnyH_take (i := 2) (v := .agg #[.int .i64 fd4, .int .i64 ft4]) rfl (by kernel_rfl) (by kernel_rfl) (by kernel_rfl) (fun _ _ _ h => h) (yieldsIf_load_blk 25 _ (Y4) (fun _ h => h.2.2) Tryz.underlying25 (by kernel_rfl) (by rfl) rfl rfl) hHeld ?_
          simp only [Act.put, List.getElem_toArray, List.getElem_cons_succ, List.getElem_cons_zero, List.setIfInBounds_toArray, List.set_cons_zero, List.set_cons_succ]
          refine wpAnyH_ready (rs := [3]) (by kernel_rfl) (by simp) ?_
          refine AllReadyH.cons rfl (fun K hK => ?_) AllReadyH.nil
          refine step_store_part 32 _ _ _ 0 (.agg #[.int .i64 R2.ch.dg, .int .i64 R2.ch.tn, .string R2.ch.nm, .slice (some ⟨g2, 0, none⟩) R2.ch.zs.length c2, .int .i64 R2.ch.wd, .int .i64 R2.ch.lf, .int .i64 R2.ch.rt, .int .i64 R2.ad, .int .i64 R2.at_, .int .i64 R2.bd, .int .i64 R2.bt, .int .i64 R2.cd, .int .i64 R2.ct, .int .i64 R2.dd, .int .i64 R2.dt, .int .i64 R2.ey, .int .i64 R2.bo]) #[.int .i64 R2.ch.dg, .int .i64 R2.ch.tn, .string R2.ch.nm, .slice (some ⟨g2, 0, none⟩) R2.ch.zs.length c2, .int .i64 R2.ch.wd, .int .i64 R2.ch.lf, .int .i64 R2.ch.rt, .int .i64 R2.ad, .int .i64 R2.at_, .int .i64 R2.bd, .int .i64 R2.bt, .int .i64 R2.cd, .int .i64 R2.ct, .int .i64 R2.dd, .int .i64 R2.dt, .int .i64 R2.ey, .int .i64 R2.bo] (Blk.kp (zk0 HK) (by omega) HR1.out) rfl rfl rfl rfl rfl (by rfl) (by kernel_rfl) (by simp [Value.oneCell']) (by simp) ?_; intro wS hBS hkb; simp only [setL, List.setIfInBounds_toArray, List.set_cons_zero, List.set_cons_succ] at hBS; have hka := zka HK hkb; have hlSo := HS.out.lt; (try replace HM := zb hka hkb HM); (try replace HG := zb hka hkb HG); (try replace HG2 := zb hka hkb HG2); (try replace HR2 := zb hka hkb HR2); (try replace HR3 := zb hka hkb HR3); (try replace HO2 := zo hka hkb HO2); (try replace HS := Lib.hid (Src.kpg2 HS.out (by repeat (with_reducible first | exact Below.refl _ _ | refine Bel.alloc ?_ _ | refine Below.drew ?_ | refine Bel.drewN ?_ _)) hkb (by omega))); replace HR1 := Lib.hid hBS; replace HK := Lib.hid (Kp.own hkb (by omega) (Kp.trans HK.out hka)); have hszS := hkb.size_; have hsyS := hka.size_; (try simp only [World.size_alloc, World.size_drew, World.heap_drewN, World.size_setCell] at hszS hsyS); clear hBS hka hkb hlSo; have hlSS := HS.out.lt
          refine hK.out _ _ (⟨HM.out, HG.out, HG2.out⟩) (fun hHeld => ?_)
          clear hK K
          try simp only [Act.put, List.setIfInBounds_toArray, List.set_cons_zero, List.set_cons_succ]
          refine wpAnyH_ready (rs := [4]) (by kernel_rfl) (by simp) ?_
          refine AllReadyH.cons rfl (fun K hK => ?_) AllReadyH.nil
          refine step_store_part 25 _ _ _ 0 (.agg #[.int .i64 fd3, .int .i64 ft3]) #[.int .i64 fd3, .int .i64 ft3] (Blk.kp (zk0 HK) (by omega) HR2.out) rfl rfl rfl rfl rfl (by rfl) (by kernel_rfl) (by simp [Value.oneCell']) (by simp) ?_; intro wS hBS hkb; simp only [setL, List.setIfInBounds_toArray, List.set_cons_zero, List.set_cons_succ] at hBS; have hka := zka HK hkb; have hlSo := HS.out.lt; (try replace HM := zb hka hkb HM); (try replace HG := zb hka hkb HG); (try replace HG2 := zb hka hkb HG2); (try replace HR1 := zb hka hkb HR1); (try replace HR3 := zb hka hkb HR3); (try replace HO2 := zo hka hkb HO2); (try replace HS := Lib.hid (Src.kpg2 HS.out (by repeat (with_reducible first | exact Below.refl _ _ | refine Bel.alloc ?_ _ | refine Below.drew ?_ | refine Bel.drewN ?_ _)) hkb (by omega))); replace HR2 := Lib.hid hBS; replace HK := Lib.hid (Kp.own hkb (by omega) (Kp.trans HK.out hka)); have hszS := hkb.size_; have hsyS := hka.size_; (try simp only [World.size_alloc, World.size_drew, World.heap_drewN, World.size_setCell] at hszS hsyS); clear hBS hka hkb hlSo; have hlSS := HS.out.lt
          refine hK.out _ _ (⟨HM.out, HG.out, HG2.out⟩) (fun hHeld => ?_)
          clear hK K
          try simp only [Act.put, List.setIfInBounds_toArray, List.set_cons_zero, List.set_cons_succ]
          refine wpAnyH_ready (rs := [5]) (by kernel_rfl) (by simp) ?_
          refine AllReadyH.cons rfl (fun K hK => ?_) AllReadyH.nil
          refine step_store_part 25 _ _ _ 0 (.agg #[.int .i64 fd4, .int .i64 ft4]) #[.int .i64 fd4, .int .i64 ft4] (Blk.kp (zk0 HK) (by omega) HR3.out) rfl rfl rfl rfl rfl (by rfl) (by kernel_rfl) (by simp [Value.oneCell']) (by simp) ?_; intro wS hBS hkb; simp only [setL, List.setIfInBounds_toArray, List.set_cons_zero, List.set_cons_succ] at hBS; have hka := zka HK hkb; have hlSo := HS.out.lt; (try replace HM := zb hka hkb HM); (try replace HG := zb hka hkb HG); (try replace HG2 := zb hka hkb HG2); (try replace HR1 := zb hka hkb HR1); (try replace HR2 := zb hka hkb HR2); (try replace HO2 := zo hka hkb HO2); (try replace HS := Lib.hid (Src.kpg2 HS.out (by repeat (with_reducible first | exact Below.refl _ _ | refine Bel.alloc ?_ _ | refine Below.drew ?_ | refine Bel.drewN ?_ _)) hkb (by omega))); replace HR3 := Lib.hid hBS; replace HK := Lib.hid (Kp.own hkb (by omega) (Kp.trans HK.out hka)); have hszS := hkb.size_; have hsyS := hka.size_; (try simp only [World.size_alloc, World.size_drew, World.heap_drewN, World.size_setCell] at hszS hsyS); clear hBS hka hkb hlSo; have hlSS := HS.out.lt
          refine hK.out _ _ (⟨HM.out, HG.out, HG2.out⟩) (fun hHeld => ?_)
          clear hK K
          try simp only [Act.put, List.setIfInBounds_toArray, List.set_cons_zero, List.set_cons_succ]
          refine wpAnyH_done (by kernel_rfl) ?_ _
          go_wp2
          exact bodyPost_ret (results_3 rfl (resF_cell HR1.out Tryz.underlying32 (by kernel_rfl) rfl) (resF_cell HR2.out Tryz.underlying25 (by kernel_rfl) rfl) (resF_cell HR3.out Tryz.underlying25 (by kernel_rfl) rfl)) rfl ⟨R2, g2, c2, fd3, ft3, fd4, ft4, rfl, by omega, by omega, Own.ge_mono HO2.out (by omega), Kp.toBel HK.out (by omega)⟩
      go_upto_region 6 with (fail)
      have hlZ := HG2.out.lt
      refine wp_region_held_drew (S := fun W => True) (by kernel_rfl) (trivial) (fun hHeld => ?_)
      replace HR1 := Lib.hid HR1.out.drew
      replace HR2 := Lib.hid HR2.out.drew
      replace HR3 := Lib.hid HR3.out.drew
      replace HM := Lib.hid HM.out.drew
      replace HG := Lib.hid HG.out.drew
      replace HG2 := Lib.hid HG2.out.drew
      replace HO2 := Lib.hid HO2.out.drew
      replace HS := Lib.hid HS.out.drew
      replace HK := Lib.hid HK.out.drew
      have hsd : w5.drew.heap.size = w5.heap.size := rfl
      rw [← hsd] at hlZ
      clear hsd
      generalize w5.drew = v6 at HR1 HR2 HR3 HM HG HG2 HO2 HS HK hHeld hlZ ⊢
      refine wpAnyH_take (i := 0) (v := (.pointer (some ⟨Y3, 0, none⟩))) rfl (by kernel_rfl) (by kernel_rfl) (by kernel_rfl) (fun _ _ _ h => h) (Or.inl ⟨by rfl, fun w _ => by simp [go_sem, execOp]⟩) hHeld ?_
      simp only [Act.put, List.getElem_toArray, List.getElem_cons_succ, List.getElem_cons_zero, List.setIfInBounds_toArray, List.set_cons_zero, List.set_cons_succ]
      refine wpAnyH_take (i := 2) (v := (.pointer (some ⟨X, 0, none⟩))) rfl (by kernel_rfl) (by kernel_rfl) (by kernel_rfl) (fun _ _ _ h => h) (Or.inl ⟨by rfl, fun w _ => by simp [go_sem, execOp]⟩) hHeld ?_
      simp only [Act.put, List.getElem_toArray, List.getElem_cons_succ, List.getElem_cons_zero, List.setIfInBounds_toArray, List.set_cons_zero, List.set_cons_succ]
      refine wpAnyH_ready (rs := [1, 3]) (by kernel_rfl) (by simp) ?_
      refine AllReadyH.cons rfl (fun K hK => ?_) (AllReadyH.cons rfl (fun K hK => ?_) (AllReadyH.nil))
      · have c0 : v6.cell? ⟨Y3, 0, none⟩ = some (.int .i64 fd3) := by rw [HG.out.cell]; rfl
        go_simp
        refine hK.out _ _ (trivial) (fun hHeld => ?_)
        clear hK K
        try simp only [Act.put, List.setIfInBounds_toArray, List.set_cons_zero, List.set_cons_succ]
        clear c0
        refine wpAnyH_ready (rs := [3]) (by kernel_rfl) (by simp) ?_
        refine AllReadyH.cons rfl (fun K hK => ?_) AllReadyH.nil
        go_simp
        go_at_call 46; refine (l01Next_c X A zs _ (by omega) _ (zsr HS)).mono ?_; rintro e w6 ⟨x6, rfl, hx6, hy6, hd6⟩; (try rw [Int.max_eq_left (by omega)] at hy6); have hkb := hd6.kp; have hka := zka HK hkb; have hlS6 := HS.out.lt; (try replace HR1 := zb hka hkb HR1); (try replace HR2 := zb hka hkb HR2); (try replace HR3 := zb hka hkb HR3); (try replace HM := zb hka hkb HM); (try replace HG := zb hka hkb HG); (try replace HG2 := zb hka hkb HG2); (try replace HO2 := zo hka hkb HO2); replace HK := zt HK hka hkb; have hsz6 := hkb.size_; have hsy6 := hka.size_; (try simp only [World.size_alloc, World.size_drew, World.heap_drewN, World.size_setCell] at hsz6 hsy6); replace HS := Lib.hid hd6.src; clear hka hkb hd6 hlS6; have hlS6 := HS.out.lt
        go_wp2_with fail
        refine hK.out _ _ (trivial) (fun hHeld => ?_)
        clear hK K
        try simp only [Act.put, List.setIfInBounds_toArray, List.set_cons_zero, List.set_cons_succ]
        refine wpAnyH_ready (rs := [4]) (by kernel_rfl) (by simp) ?_
        refine AllReadyH.cons rfl (fun K hK => ?_) AllReadyH.nil
        go_simp
        refine hK.out _ _ (trivial) (fun hHeld => ?_)
        clear hK K
        try simp only [Act.put, List.setIfInBounds_toArray, List.set_cons_zero, List.set_cons_succ]
        refine wpAnyH_take (i := 5) (v := (.pointer (some ⟨Y3, 0, none⟩))) rfl (by kernel_rfl) (by kernel_rfl) (by kernel_rfl) (fun _ _ _ h => h) (Or.inl ⟨by rfl, fun w _ => by simp [go_sem, execOp]⟩) hHeld ?_
        simp only [Act.put, List.getElem_toArray, List.getElem_cons_succ, List.getElem_cons_zero, List.setIfInBounds_toArray, List.set_cons_zero, List.set_cons_succ]
        refine wpAnyH_ready (rs := [6]) (by kernel_rfl) (by simp) ?_
        refine AllReadyH.cons rfl (fun K hK => ?_) AllReadyH.nil
        refine step_store_part 2 _ _ _ 0 _ _ (Blk.kp (zk0 HK) (by omega) HG.out) rfl rfl rfl rfl rfl (by rfl) (by kernel_rfl) (by simp [go_sem, Value.cells, Value.oneCell']) (by simp [go_sem, Value.cells]) ?_; intro wS hBS hkb; simp [go_sem, Value.cells, setL] at hBS; have hka := zka HK hkb; have hlSo := HS.out.lt; (try replace HR1 := zb hka hkb HR1); (try replace HR2 := zb hka hkb HR2); (try replace HR3 := zb hka hkb HR3); (try replace HM := zb hka hkb HM); (try replace HG2 := zb hka hkb HG2); (try replace HO2 := zo hka hkb HO2); (try replace HS := Lib.hid (Src.kpg2 HS.out (by repeat (with_reducible first | exact Below.refl _ _ | refine Bel.alloc ?_ _ | refine Below.drew ?_ | refine Bel.drewN ?_ _)) hkb (by omega))); replace HG := Lib.hid hBS; replace HK := Lib.hid (Kp.own hkb (by omega) (Kp.trans HK.out hka)); have hszS := hkb.size_; have hsyS := hka.size_; (try simp only [World.size_alloc, World.size_drew, World.heap_drewN, World.size_setCell] at hszS hsyS); clear hBS hka hkb hlSo; have hlSS := HS.out.lt
        refine hK.out _ _ (trivial) (fun hHeld => ?_)
        clear hK K
        try simp only [Act.put, List.setIfInBounds_toArray, List.set_cons_zero, List.set_cons_succ]
        refine wpAnyH_done (by kernel_rfl) ?_ _
        have hX2 : ∃ z : Int, Hid (Blk wS Y3 25 #[.int .i64 z, .int .i64 ft3]) := ⟨_, HG⟩
        clear HG
        obtain ⟨fz, HG⟩ := hX2
        clear hlZ
        go_wp2_with fail
        go_at_call 46; refine (l01Next_c X A zs _ (by omega) _ (zsr HS)).mono ?_; rintro e w7 ⟨x7, rfl, hx7, hy7, hd7⟩; (try rw [Int.max_eq_left (by omega)] at hy7); have hkb := hd7.kp; have hka := zka HK hkb; have hlS7 := HS.out.lt; (try replace HR1 := zb hka hkb HR1); (try replace HR2 := zb hka hkb HR2); (try replace HR3 := zb hka hkb HR3); (try replace HM := zb hka hkb HM); (try replace HG := zb hka hkb HG); (try replace HG2 := zb hka hkb HG2); (try replace HO2 := zo hka hkb HO2); replace HK := zt HK hka hkb; have hsz7 := hkb.size_; have hsy7 := hka.size_; (try simp only [World.size_alloc, World.size_drew, World.heap_drewN, World.size_setCell] at hsz7 hsy7); replace HS := Lib.hid hd7.src; clear hka hkb hd7 hlS7; have hlS7 := HS.out.lt
        have hlZ := HG2.out.lt
        by_cases q7 : x7 = 0
        · go_upto_region 8 with (fail)
          refine wp_region_held_drew (S := fun W => Blk W w2.heap.size 32 #[.int .i64 R2.ch.dg, .int .i64 R2.ch.tn, .string R2.ch.nm, .slice (some ⟨g2, 0, none⟩) R2.ch.zs.length c2, .int .i64 R2.ch.wd, .int .i64 R2.ch.lf, .int .i64 R2.ch.rt, .int .i64 R2.ad, .int .i64 R2.at_, .int .i64 R2.bd, .int .i64 R2.bt, .int .i64 R2.cd, .int .i64 R2.ct, .int .i64 R2.dd, .int .i64 R2.dt, .int .i64 R2.ey, .int .i64 R2.bo] ∧ Blk W Y4 25 #[.int .i64 fd4, .int .i64 ft4]) (by kernel_rfl) (⟨HM.out.drew, HG2.out.drew⟩) (fun hHeld => ?_)
          replace HR1 := Lib.hid HR1.out.drew
          replace HR2 := Lib.hid HR2.out.drew
          replace HR3 := Lib.hid HR3.out.drew
          replace HM := Lib.hid HM.out.drew
          replace HG := Lib.hid HG.out.drew
          replace HG2 := Lib.hid HG2.out.drew
          replace HO2 := Lib.hid HO2.out.drew
          replace HS := Lib.hid HS.out.drew
          replace HK := Lib.hid HK.out.drew
          have hsd : w7.drew.heap.size = w7.heap.size := rfl
          rw [← hsd] at hlZ
          clear hsd
          generalize w7.drew = v8 at HR1 HR2 HR3 HM HG HG2 HO2 HS HK hHeld hlZ ⊢
          refine wpAnyH_take (i := 0) (v := .agg #[.int .i64 R2.ch.dg, .int .i64 R2.ch.tn, .string R2.ch.nm, .slice (some ⟨g2, 0, none⟩) R2.ch.zs.length c2, .int .i64 R2.ch.wd, .int .i64 R2.ch.lf, .int .i64 R2.ch.rt, .int .i64 R2.ad, .int .i64 R2.at_, .int .i64 R2.bd, .int .i64 R2.bt, .int .i64 R2.cd, .int .i64 R2.ct, .int .i64 R2.dd, .int .i64 R2.dt, .int .i64 R2.ey, .int .i64 R2.bo]) rfl (by kernel_rfl) (by kernel_rfl) (by kernel_rfl) (fun _ _ _ h => h) (yieldsIf_load_blk 32 _ (w2.heap.size) (fun _ h => h.1) Tryz.underlying32 (by kernel_rfl) (by rfl) rfl rfl) hHeld ?_
          simp only [Act.put, List.getElem_toArray, List.getElem_cons_succ, List.getElem_cons_zero, List.setIfInBounds_toArray, List.set_cons_zero, List.set_cons_succ]
          refine wpAnyH_take (i := 1) (v := (.pointer (some ⟨X, 0, none⟩))) rfl (by kernel_rfl) (by kernel_rfl) (by kernel_rfl) (fun _ _ _ h => h) (Or.inl ⟨by rfl, fun w _ => by simp [go_sem, execOp]⟩) hHeld ?_
          simp only [Act.put, List.getElem_toArray, List.getElem_cons_succ, List.getElem_cons_zero, List.setIfInBounds_toArray, List.set_cons_zero, List.set_cons_succ]
          refine wpAnyH_take (i := 3) (v := .agg #[.int .i64 fd4, .int .i64 ft4]) rfl (by kernel_rfl) (by kernel_rfl) (by kernel_rfl) (fun _ _ _ h => h) (yieldsIf_load_blk 25 _ (Y4) (fun _ h => h.2) Tryz.underlying25 (by kernel_rfl) (by rfl) rfl rfl) hHeld ?_
          simp only [Act.put, List.getElem_toArray, List.getElem_cons_succ, List.getElem_cons_zero, List.setIfInBounds_toArray, List.set_cons_zero, List.set_cons_succ]
          refine wpAnyH_ready (rs := [2]) (by kernel_rfl) (by simp) ?_
          refine AllReadyH.cons rfl (fun K hK => ?_) AllReadyH.nil
          go_simp
          go_at_call 89; refine (l02Draw_c X A zs _ (zsr HS)).mono ?_; rintro e w8 ⟨d8, t8, rfl, ho8, hd8⟩; clear ho8; have hkb := hd8.kp; have hka := zka HK hkb; have hlS8 := HS.out.lt; (try replace HR1 := zb hka hkb HR1); (try replace HR2 := zb hka hkb HR2); (try replace HR3 := zb hka hkb HR3); (try replace HM := zb hka hkb HM); (try replace HG := zb hka hkb HG); (try replace HG2 := zb hka hkb HG2); (try replace HO2 := zo hka hkb HO2); replace HK := zt HK hka hkb; have hsz8 := hkb.size_; have hsy8 := hka.size_; (try simp only [World.size_alloc, World.size_drew, World.heap_drewN, World.size_setCell] at hsz8 hsy8); replace HS := Lib.hid hd8.src; clear hka hkb hd8 hlS8; have hlS8 := HS.out.lt
          go_wp2_with fail
          refine hK.out _ _ (⟨HM.out, HG2.out⟩) (fun hHeld => ?_)
          clear hK K
          try simp only [Act.put, List.setIfInBounds_toArray, List.set_cons_zero, List.set_cons_succ]
          refine wpAnyH_ready (rs := [4]) (by kernel_rfl) (by simp) ?_
          refine AllReadyH.cons rfl (fun K hK => ?_) AllReadyH.nil
          refine step_store_part 32 _ _ _ 0 (.agg #[.int .i64 R2.ch.dg, .int .i64 R2.ch.tn, .string R2.ch.nm, .slice (some ⟨g2, 0, none⟩) R2.ch.zs.length c2, .int .i64 R2.ch.wd, .int .i64 R2.ch.lf, .int .i64 R2.ch.rt, .int .i64 R2.ad, .int .i64 R2.at_, .int .i64 R2.bd, .int .i64 R2.bt, .int .i64 R2.cd, .int .i64 R2.ct, .int .i64 R2.dd, .int .i64 R2.dt, .int .i64 R2.ey, .int .i64 R2.bo]) #[.int .i64 R2.ch.dg, .int .i64 R2.ch.tn, .string R2.ch.nm, .slice (some ⟨g2, 0, none⟩) R2.ch.zs.length c2, .int .i64 R2.ch.wd, .int .i64 R2.ch.lf, .int .i64 R2.ch.rt, .int .i64 R2.ad, .int .i64 R2.at_, .int .i64 R2.bd, .int .i64 R2.bt, .int .i64 R2.cd, .int .i64 R2.ct, .int .i64 R2.dd, .int .i64 R2.dt, .int .i64 R2.ey, .int .i64 R2.bo] (Blk.kp (zk0 HK) (by omega) HR1.out) rfl rfl rfl rfl rfl (by rfl) (by kernel_rfl) (by simp [Value.oneCell']) (by simp) ?_; intro wS hBS hkb; simp only [setL, List.setIfInBounds_toArray, List.set_cons_zero, List.set_cons_succ] at hBS; have hka := zka HK hkb; have hlSo := HS.out.lt; (try replace HM := zb hka hkb HM); (try replace HG := zb hka hkb HG); (try replace HG2 := zb hka hkb HG2); (try replace HR2 := zb hka hkb HR2); (try replace HR3 := zb hka hkb HR3); (try replace HO2 := zo hka hkb HO2); (try replace HS := Lib.hid (Src.kpg2 HS.out (by repeat (with_reducible first | exact Below.refl _ _ | refine Bel.alloc ?_ _ | refine Below.drew ?_ | refine Bel.drewN ?_ _)) hkb (by omega))); replace HR1 := Lib.hid hBS; replace HK := Lib.hid (Kp.own hkb (by omega) (Kp.trans HK.out hka)); have hszS := hkb.size_; have hsyS := hka.size_; (try simp only [World.size_alloc, World.size_drew, World.heap_drewN, World.size_setCell] at hszS hsyS); clear hBS hka hkb hlSo; have hlSS := HS.out.lt
          refine hK.out _ _ (⟨HM.out, HG2.out⟩) (fun hHeld => ?_)
          clear hK K
          try simp only [Act.put, List.setIfInBounds_toArray, List.set_cons_zero, List.set_cons_succ]
          refine wpAnyH_ready (rs := [5]) (by kernel_rfl) (by simp) ?_
          refine AllReadyH.cons rfl (fun K hK => ?_) AllReadyH.nil
          refine step_store_part 25 _ _ _ 0 (.agg #[.int .i64 d8, .int .i64 t8]) #[.int .i64 d8, .int .i64 t8] (Blk.kp (zk0 HK) (by omega) HR2.out) rfl rfl rfl rfl rfl (by rfl) (by kernel_rfl) (by simp [Value.oneCell']) (by simp) ?_; intro wS hBS hkb; simp only [setL, List.setIfInBounds_toArray, List.set_cons_zero, List.set_cons_succ] at hBS; have hka := zka HK hkb; have hlSo := HS.out.lt; (try replace HM := zb hka hkb HM); (try replace HG := zb hka hkb HG); (try replace HG2 := zb hka hkb HG2); (try replace HR1 := zb hka hkb HR1); (try replace HR3 := zb hka hkb HR3); (try replace HO2 := zo hka hkb HO2); (try replace HS := Lib.hid (Src.kpg2 HS.out (by repeat (with_reducible first | exact Below.refl _ _ | refine Bel.alloc ?_ _ | refine Below.drew ?_ | refine Bel.drewN ?_ _)) hkb (by omega))); replace HR2 := Lib.hid hBS; replace HK := Lib.hid (Kp.own hkb (by omega) (Kp.trans HK.out hka)); have hszS := hkb.size_; have hsyS := hka.size_; (try simp only [World.size_alloc, World.size_drew, World.heap_drewN, World.size_setCell] at hszS hsyS); clear hBS hka hkb hlSo; have hlSS := HS.out.lt
          refine hK.out _ _ (⟨HM.out, HG2.out⟩) (fun hHeld => ?_)
          clear hK K
          try simp only [Act.put, List.setIfInBounds_toArray, List.set_cons_zero, List.set_cons_succ]
          refine wpAnyH_ready (rs := [6]) (by kernel_rfl) (by simp) ?_
          refine AllReadyH.cons rfl (fun K hK => ?_) AllReadyH.nil
          refine step_store_part 25 _ _ _ 0 (.agg #[.int .i64 fd4, .int .i64 ft4]) #[.int .i64 fd4, .int .i64 ft4] (Blk.kp (zk0 HK) (by omega) HR3.out) rfl rfl rfl rfl rfl (by rfl) (by kernel_rfl) (by simp [Value.oneCell']) (by simp) ?_; intro wS hBS hkb; simp only [setL, List.setIfInBounds_toArray, List.set_cons_zero, List.set_cons_succ] at hBS; have hka := zka HK hkb; have hlSo := HS.out.lt; (try replace HM := zb hka hkb HM); (try replace HG := zb hka hkb HG); (try replace HG2 := zb hka hkb HG2); (try replace HR1 := zb hka hkb HR1); (try replace HR2 := zb hka hkb HR2); (try replace HO2 := zo hka hkb HO2); (try replace HS := Lib.hid (Src.kpg2 HS.out (by repeat (with_reducible first | exact Below.refl _ _ | refine Bel.alloc ?_ _ | refine Below.drew ?_ | refine Bel.drewN ?_ _)) hkb (by omega))); replace HR3 := Lib.hid hBS; replace HK := Lib.hid (Kp.own hkb (by omega) (Kp.trans HK.out hka)); have hszS := hkb.size_; have hsyS := hka.size_; (try simp only [World.size_alloc, World.size_drew, World.heap_drewN, World.size_setCell] at hszS hsyS); clear hBS hka hkb hlSo; have hlSS := HS.out.lt
          refine hK.out _ _ (⟨HM.out, HG2.out⟩) (fun hHeld => ?_)
          clear hK K
          try simp only [Act.put, List.setIfInBounds_toArray, List.set_cons_zero, List.set_cons_succ]
          refine wpAnyH_done (by kernel_rfl) ?_ _
          go_wp2
          exact bodyPost_ret (results_3 rfl (resF_cell HR1.out Tryz.underlying32 (by kernel_rfl) rfl) (resF_cell HR2.out Tryz.underlying25 (by kernel_rfl) rfl) (resF_cell HR3.out Tryz.underlying25 (by kernel_rfl) rfl)) rfl ⟨R2, g2, c2, d8, t8, fd4, ft4, rfl, by omega, by omega, Own.ge_mono HO2.out (by omega), Kp.toBel HK.out (by omega)⟩
        · go_upto_region 9 with (fail)
          refine wp_region_held_drew (S := fun W => Blk W w2.heap.size 32 #[.int .i64 R2.ch.dg, .int .i64 R2.ch.tn, .string R2.ch.nm, .slice (some ⟨g2, 0, none⟩) R2.ch.zs.length c2, .int .i64 R2.ch.wd, .int .i64 R2.ch.lf, .int .i64 R2.ch.rt, .int .i64 R2.ad, .int .i64 R2.at_, .int .i64 R2.bd, .int .i64 R2.bt, .int .i64 R2.cd, .int .i64 R2.ct, .int .i64 R2.dd, .int .i64 R2.dt, .int .i64 R2.ey, .int .i64 R2.bo] ∧ Blk W Y3 25 #[.int .i64 fz, .int .i64 ft3] ∧ Blk W Y4 25 #[.int .i64 fd4, .int .i64 ft4]) (by kernel_rfl) (⟨HM.out.drew, HG.out.drew, HG2.out.drew⟩) (fun hHeld => ?_)
          replace HR1 := Lib.hid HR1.out.drew
          replace HR2 := Lib.hid HR2.out.drew
          replace HR3 := Lib.hid HR3.out.drew
          replace HM := Lib.hid HM.out.drew
          replace HG := Lib.hid HG.out.drew
          replace HG2 := Lib.hid HG2.out.drew
          replace HO2 := Lib.hid HO2.out.drew
          replace HS := Lib.hid HS.out.drew
          replace HK := Lib.hid HK.out.drew
          have hsd : w7.drew.heap.size = w7.heap.size := rfl
          rw [← hsd] at hlZ
          clear hsd
          generalize w7.drew = v9 at HR1 HR2 HR3 HM HG HG2 HO2 HS HK hHeld hlZ ⊢
          refine wpAnyH_take (i := 0) (v := .agg #[.int .i64 R2.ch.dg, .int .i64 R2.ch.tn, .string R2.ch.nm, .slice (some ⟨g2, 0, none⟩) R2.ch.zs.length c2, .int .i64 R2.ch.wd, .int .i64 R2.ch.lf, .int .i64 R2.ch.rt, .int .i64 R2.ad, .int .i64 R2.at_, .int .i64 R2.bd, .int .i64 R2.bt, .int .i64 R2.cd, .int .i64 R2.ct, .int .i64 R2.dd, .int .i64 R2.dt, .int .i64 R2.ey, .int .i64 R2.bo]) rfl (by kernel_rfl) (by kernel_rfl) (by kernel_rfl) (fun _ _ _ h => h) (yieldsIf_load_blk 32 _ (w2.heap.size) (fun _ h => h.1) Tryz.underlying32 (by kernel_rfl) (by rfl) rfl rfl) hHeld ?_
          simp only [Act.put, List.getElem_toArray, List.getElem_cons_succ, List.getElem_cons_zero, List.setIfInBounds_toArray, List.set_cons_zero, List.set_cons_succ]
          refine wpAnyH_take (i := 1) (v := .agg #[.int .i64 fz, .int .i64 ft3]) rfl (by kernel_rfl) (by kernel_rfl) (by kernel_rfl) (fun _ _ _ h => h) (yieldsIf_load_blk 25 _ (Y3) (fun _ h => h.2.1) Tryz.underlying25 (by kernel_rfl) (by rfl) rfl rfl) hHeld ?_
          simp only [Act.put, List.getElem_toArray, List.getElem_cons_succ, List.getElem_cons_zero, List.setIfInBounds_toArray, List.set_cons_zero, List.set_cons_succ]
          refine wpAnyH_take (i := 2) (v := .agg #[.int .i64 fd4, .int .i64 ft4]) rfl (by kernel_rfl) (by kernel_rfl) (by kernel_rfl) (fun _ _ _ h => h) (yieldsIf_load_blk 25 _ (Y4) (fun _ h => h.2.2) Tryz.underlying25 (by kernel_rfl) (by rfl) rfl rfl) hHeld ?_
          simp only [Act.put, List.getElem_toArray, List.getElem_cons_succ, List.getElem_cons_zero, List.setIfInBounds_toArray, List.set_cons_zero, List.set_cons_succ]
          refine wpAnyH_ready (rs := [3]) (by kernel_rfl) (by simp) ?_
          refine AllReadyH.cons rfl (fun K hK => ?_) AllReadyH.nil
          refine step_store_part 32 _ _ _ 0 (.agg #[.int .i64 R2.ch.dg, .int .i64 R2.ch.tn, .string R2.ch.nm, .slice (some ⟨g2, 0, none⟩) R2.ch.zs.length c2, .int .i64 R2.ch.wd, .int .i64 R2.ch.lf, .int .i64 R2.ch.rt, .int .i64 R2.ad, .int .i64 R2.at_, .int .i64 R2.bd, .int .i64 R2.bt, .int .i64 R2.cd, .int .i64 R2.ct, .int .i64 R2.dd, .int .i64 R2.dt, .int .i64 R2.ey, .int .i64 R2.bo]) #[.int .i64 R2.ch.dg, .int .i64 R2.ch.tn, .string R2.ch.nm, .slice (some ⟨g2, 0, none⟩) R2.ch.zs.length c2, .int .i64 R2.ch.wd, .int .i64 R2.ch.lf, .int .i64 R2.ch.rt, .int .i64 R2.ad, .int .i64 R2.at_, .int .i64 R2.bd, .int .i64 R2.bt, .int .i64 R2.cd, .int .i64 R2.ct, .int .i64 R2.dd, .int .i64 R2.dt, .int .i64 R2.ey, .int .i64 R2.bo] (Blk.kp (zk0 HK) (by omega) HR1.out) rfl rfl rfl rfl rfl (by rfl) (by kernel_rfl) (by simp [Value.oneCell']) (by simp) ?_; intro wS hBS hkb; simp only [setL, List.setIfInBounds_toArray, List.set_cons_zero, List.set_cons_succ] at hBS; have hka := zka HK hkb; have hlSo := HS.out.lt; (try replace HM := zb hka hkb HM); (try replace HG := zb hka hkb HG); (try replace HG2 := zb hka hkb HG2); (try replace HR2 := zb hka hkb HR2); (try replace HR3 := zb hka hkb HR3); (try replace HO2 := zo hka hkb HO2); (try replace HS := Lib.hid (Src.kpg2 HS.out (by repeat (with_reducible first | exact Below.refl _ _ | refine Bel.alloc ?_ _ | refine Below.drew ?_ | refine Bel.drewN ?_ _)) hkb (by omega))); replace HR1 := Lib.hid hBS; replace HK := Lib.hid (Kp.own hkb (by omega) (Kp.trans HK.out hka)); have hszS := hkb.size_; have hsyS := hka.size_; (try simp only [World.size_alloc, World.size_drew, World.heap_drewN, World.size_setCell] at hszS hsyS); clear hBS hka hkb hlSo; have hlSS := HS.out.lt
          refine hK.out _ _ (⟨HM.out, HG.out, HG2.out⟩) (fun hHeld => ?_)
          clear hK K
          try simp only [Act.put, List.setIfInBounds_toArray, List.set_cons_zero, List.set_cons_succ]
          refine wpAnyH_ready (rs := [4]) (by kernel_rfl) (by simp) ?_
          refine AllReadyH.cons rfl (fun K hK => ?_) AllReadyH.nil
          refine step_store_part 25 _ _ _ 0 (.agg #[.int .i64 fz, .int .i64 ft3]) #[.int .i64 fz, .int .i64 ft3] (Blk.kp (zk0 HK) (by omega) HR2.out) rfl rfl rfl rfl rfl (by rfl) (by kernel_rfl) (by simp [Value.oneCell']) (by simp) ?_; intro wS hBS hkb; simp only [setL, List.setIfInBounds_toArray, List.set_cons_zero, List.set_cons_succ] at hBS; have hka := zka HK hkb; have hlSo := HS.out.lt; (try replace HM := zb hka hkb HM); (try replace HG := zb hka hkb HG); (try replace HG2 := zb hka hkb HG2); (try replace HR1 := zb hka hkb HR1); (try replace HR3 := zb hka hkb HR3); (try replace HO2 := zo hka hkb HO2); (try replace HS := Lib.hid (Src.kpg2 HS.out (by repeat (with_reducible first | exact Below.refl _ _ | refine Bel.alloc ?_ _ | refine Below.drew ?_ | refine Bel.drewN ?_ _)) hkb (by omega))); replace HR2 := Lib.hid hBS; replace HK := Lib.hid (Kp.own hkb (by omega) (Kp.trans HK.out hka)); have hszS := hkb.size_; have hsyS := hka.size_; (try simp only [World.size_alloc, World.size_drew, World.heap_drewN, World.size_setCell] at hszS hsyS); clear hBS hka hkb hlSo; have hlSS := HS.out.lt
          refine hK.out _ _ (⟨HM.out, HG.out, HG2.out⟩) (fun hHeld => ?_)
          clear hK K
          try simp only [Act.put, List.setIfInBounds_toArray, List.set_cons_zero, List.set_cons_succ]
          refine wpAnyH_ready (rs := [5]) (by kernel_rfl) (by simp) ?_
          refine AllReadyH.cons rfl (fun K hK => ?_) AllReadyH.nil
          refine step_store_part 25 _ _ _ 0 (.agg #[.int .i64 fd4, .int .i64 ft4]) #[.int .i64 fd4, .int .i64 ft4] (Blk.kp (zk0 HK) (by omega) HR3.out) rfl rfl rfl rfl rfl (by rfl) (by kernel_rfl) (by simp [Value.oneCell']) (by simp) ?_; intro wS hBS hkb; simp only [setL, List.setIfInBounds_toArray, List.set_cons_zero, List.set_cons_succ] at hBS; have hka := zka HK hkb; have hlSo := HS.out.lt; (try replace HM := zb hka hkb HM); (try replace HG := zb hka hkb HG); (try replace HG2 := zb hka hkb HG2); (try replace HR1 := zb hka hkb HR1); (try replace HR2 := zb hka hkb HR2); (try replace HO2 := zo hka hkb HO2); (try replace HS := Lib.hid (Src.kpg2 HS.out (by repeat (with_reducible first | exact Below.refl _ _ | refine Bel.alloc ?_ _ | refine Below.drew ?_ | refine Bel.drewN ?_ _)) hkb (by omega))); replace HR3 := Lib.hid hBS; replace HK := Lib.hid (Kp.own hkb (by omega) (Kp.trans HK.out hka)); have hszS := hkb.size_; have hsyS := hka.size_; (try simp only [World.size_alloc, World.size_drew, World.heap_drewN, World.size_setCell] at hszS hsyS); clear hBS hka hkb hlSo; have hlSS := HS.out.lt
          refine hK.out _ _ (⟨HM.out, HG.out, HG2.out⟩) (fun hHeld => ?_)
          clear hK K
          try simp only [Act.put, List.setIfInBounds_toArray, List.set_cons_zero, List.set_cons_succ]
          refine wpAnyH_done (by kernel_rfl) ?_ _
          go_wp2
          exact bodyPost_ret (results_3 rfl (resF_cell HR1.out Tryz.underlying32 (by kernel_rfl) rfl) (resF_cell HR2.out Tryz.underlying25 (by kernel_rfl) rfl) (resF_cell HR3.out Tryz.underlying25 (by kernel_rfl) rfl)) rfl ⟨R2, g2, c2, fz, ft3, fd4, ft4, rfl, by omega, by omega, Own.ge_mono HO2.out (by omega), Kp.toBel HK.out (by omega)⟩
      · go_simp
        go_at_call 46; refine (l01Next_c X A zs _ (by omega) _ (zsr HS)).mono ?_; rintro e w6 ⟨x6, rfl, hx6, hy6, hd6⟩; (try rw [Int.max_eq_left (by omega)] at hy6); have hkb := hd6.kp; have hka := zka HK hkb; have hlS6 := HS.out.lt; (try replace HR1 := zb hka hkb HR1); (try replace HR2 := zb hka hkb HR2); (try replace HR3 := zb hka hkb HR3); (try replace HM := zb hka hkb HM); (try replace HG := zb hka hkb HG); (try replace HG2 := zb hka hkb HG2); (try replace HO2 := zo hka hkb HO2); replace HK := zt HK hka hkb; have hsz6 := hkb.size_; have hsy6 := hka.size_; (try simp only [World.size_alloc, World.size_drew, World.heap_drewN, World.size_setCell] at hsz6 hsy6); replace HS := Lib.hid hd6.src; clear hka hkb hd6 hlS6; have hlS6 := HS.out.lt
        refine hK.out _ _ (trivial) (fun hHeld => ?_)
        clear hK K
        try simp only [Act.put, List.setIfInBounds_toArray, List.set_cons_zero, List.set_cons_succ]
        have c0 : w6.cell? ⟨Y3, 0, none⟩ = some (.int .i64 fd3) := by rw [HG.out.cell]; rfl
        refine wpAnyH_ready (rs := [1]) (by kernel_rfl) (by simp) ?_
        refine AllReadyH.cons rfl (fun K hK => ?_) AllReadyH.nil
        go_simp
        refine hK.out _ _ (trivial) (fun hHeld => ?_)
        clear hK K
        try simp only [Act.put, List.setIfInBounds_toArray, List.set_cons_zero, List.set_cons_succ]
        clear c0
        refine wpAnyH_ready (rs := [4]) (by kernel_rfl) (by simp) ?_
        refine AllReadyH.cons rfl (fun K hK => ?_) AllReadyH.nil
        go_simp
        refine hK.out _ _ (trivial) (fun hHeld => ?_)
        clear hK K
        try simp only [Act.put, List.setIfInBounds_toArray, List.set_cons_zero, List.set_cons_succ]
        refine wpAnyH_take (i := 5) (v := (.pointer (some ⟨Y3, 0, none⟩))) rfl (by kernel_rfl) (by kernel_rfl) (by kernel_rfl) (fun _ _ _ h => h) (Or.inl ⟨by rfl, fun w _ => by simp [go_sem, execOp]⟩) hHeld ?_
        simp only [Act.put, List.getElem_toArray, List.getElem_cons_succ, List.getElem_cons_zero, List.setIfInBounds_toArray, List.set_cons_zero, List.set_cons_succ]
        refine wpAnyH_ready (rs := [6]) (by kernel_rfl) (by simp) ?_
        refine AllReadyH.cons rfl (fun K hK => ?_) AllReadyH.nil
        refine step_store_part 2 _ _ _ 0 _ _ (Blk.kp (zk0 HK) (by omega) HG.out) rfl rfl rfl rfl rfl (by rfl) (by kernel_rfl) (by simp [go_sem, Value.cells, Value.oneCell']) (by simp [go_sem, Value.cells]) ?_; intro wS hBS hkb; simp [go_sem, Value.cells, setL] at hBS; have hka := zka HK hkb; have hlSo := HS.out.lt; (try replace HR1 := zb hka hkb HR1); (try replace HR2 := zb hka hkb HR2); (try replace HR3 := zb hka hkb HR3); (try replace HM := zb hka hkb HM); (try replace HG2 := zb hka hkb HG2); (try replace HO2 := zo hka hkb HO2); (try replace HS := Lib.hid (Src.kpg2 HS.out (by repeat (with_reducible first | exact Below.refl _ _ | refine Bel.alloc ?_ _ | refine Below.drew ?_ | refine Bel.drewN ?_ _)) hkb (by omega))); replace HG := Lib.hid hBS; replace HK := Lib.hid (Kp.own hkb (by omega) (Kp.trans HK.out hka)); have hszS := hkb.size_; have hsyS := hka.size_; (try simp only [World.size_alloc, World.size_drew, World.heap_drewN, World.size_setCell] at hszS hsyS); clear hBS hka hkb hlSo; have hlSS := HS.out.lt
        refine hK.out _ _ (trivial) (fun hHeld => ?_)
        clear hK K
        try simp only [Act.put, List.setIfInBounds_toArray, List.set_cons_zero, List.set_cons_succ]
        refine wpAnyH_done (by kernel_rfl) ?_ _
        have hX2 : ∃ z : Int, Hid (Blk wS Y3 25 #[.int .i64 z, .int .i64 ft3]) := ⟨_, HG⟩
        clear HG
        obtain ⟨fz, HG⟩ := hX2
        clear hlZ
        go_wp2_with fail
        go_at_call 46; refine (l01Next_c X A zs _ (by omega) _ (zsr HS)).mono ?_; rintro e w7 ⟨x7, rfl, hx7, hy7, hd7⟩; (try rw [Int.max_eq_left (by omega)] at hy7); have hkb := hd7.kp; have hka := zka HK hkb; have hlS7 := HS.out.lt; (try replace HR1 := zb hka hkb HR1); (try replace HR2 := zb hka hkb HR2); (try replace HR3 := zb hka hkb HR3); (try replace HM := zb hka hkb HM); (try replace HG := zb hka hkb HG); (try replace HG2 := zb hka hkb HG2); (try replace HO2 := zo hka hkb HO2); replace HK := zt HK hka hkb; have hsz7 := hkb.size_; have hsy7 := hka.size_; (try simp only [World.size_alloc, World.size_drew, World.heap_drewN, World.size_setCell] at hsz7 hsy7); replace HS := Lib.hid hd7.src; clear hka hkb hd7 hlS7; have hlS7 := HS.out.lt
        have hlZ := HG2.out.lt
        by_cases q7 : x7 = 0
        · go_upto_region 8 with (fail)
          refine wp_region_held_drew (S := fun W => Blk W w2.heap.size 32 #[.int .i64 R2.ch.dg, .int .i64 R2.ch.tn, .string R2.ch.nm, .slice (some ⟨g2, 0, none⟩) R2.ch.zs.length c2, .int .i64 R2.ch.wd, .int .i64 R2.ch.lf, .int .i64 R2.ch.rt, .int .i64 R2.ad, .int .i64 R2.at_, .int .i64 R2.bd, .int .i64 R2.bt, .int .i64 R2.cd, .int .i64 R2.ct, .int .i64 R2.dd, .int .i64 R2.dt, .int .i64 R2.ey, .int .i64 R2.bo] ∧ Blk W Y4 25 #[.int .i64 fd4, .int .i64 ft4]) (by kernel_rfl) (⟨HM.out.drew, HG2.out.drew⟩) (fun hHeld => ?_)
          replace HR1 := Lib.hid HR1.out.drew
          replace HR2 := Lib.hid HR2.out.drew
          replace HR3 := Lib.hid HR3.out.drew
          replace HM := Lib.hid HM.out.drew
          replace HG := Lib.hid HG.out.drew
          replace HG2 := Lib.hid HG2.out.drew
          replace HO2 := Lib.hid HO2.out.drew
          replace HS := Lib.hid HS.out.drew
          replace HK := Lib.hid HK.out.drew
          have hsd : w7.drew.heap.size = w7.heap.size := rfl
          rw [← hsd] at hlZ
          clear hsd
          generalize w7.drew = v8 at HR1 HR2 HR3 HM HG HG2 HO2 HS HK hHeld hlZ ⊢
          refine wpAnyH_take (i := 0) (v := .agg #[.int .i64 R2.ch.dg, .int .i64 R2.ch.tn, .string R2.ch.nm, .slice (some ⟨g2, 0, none⟩) R2.ch.zs.length c2, .int .i64 R2.ch.wd, .int .i64 R2.ch.lf, .int .i64 R2.ch.rt, .int .i64 R2.ad, .int .i64 R2.at_, .int .i64 R2.bd, .int .i64 R2.bt, .int .i64 R2.cd, .int .i64 R2.ct, .int .i64 R2.dd, .int .i64 R2.dt, .int .i64 R2.ey, .int .i64 R2.bo]) rfl (by kernel_rfl) (by kernel_rfl) (by kernel_rfl) (fun _ _ _ h => h) (yieldsIf_load_blk 32 _ (w2.heap.size) (fun _ h => h.1) Tryz.underlying32 (by kernel_rfl) (by rfl) rfl rfl) hHeld ?_
          simp only [Act.put, List.getElem_toArray, List.getElem_cons_succ, List.getElem_cons_zero, List.setIfInBounds_toArray, List.set_cons_zero, List.set_cons_succ]
          refine wpAnyH_take (i := 1) (v := (.pointer (some ⟨X, 0, none⟩))) rfl (by kernel_rfl) (by kernel_rfl) (by kernel_rfl) (fun _ _ _ h => h) (Or.inl ⟨by rfl, fun w _ => by simp [go_sem, execOp]⟩) hHeld ?_
          simp only [Act.put, List.getElem_toArray, List.getElem_cons_succ, List.getElem_cons_zero, List.setIfInBounds_toArray, List.set_cons_zero, List.set_cons_succ]
          refine wpAnyH_take (i := 3) (v := .agg #[.int .i64 fd4, .int .i64 ft4]) rfl (by kernel_rfl) (by kernel_rfl) (by kernel_rfl) (fun _ _ _ h => h) (yieldsIf_load_blk 25 _ (Y4) (fun _ h => h.2) Tryz.underlying25 (by kernel_rfl) (by rfl) rfl rfl) hHeld ?_
          simp only [Act.put, List.getElem_toArray, List.getElem_cons_succ, List.getElem_cons_zero, List.setIfInBounds_toArray, List.set_cons_zero, List.set_cons_succ]
          refine wpAnyH_ready (rs := [2]) (by kernel_rfl) (by simp) ?_
          refine AllReadyH.cons rfl (fun K hK => ?_) AllReadyH.nil
          go_simp
          go_at_call 89; refine (l02Draw_c X A zs _ (zsr HS)).mono ?_; rintro e w8 ⟨d8, t8, rfl, ho8, hd8⟩; clear ho8; have hkb := hd8.kp; have hka := zka HK hkb; have hlS8 := HS.out.lt; (try replace HR1 := zb hka hkb HR1); (try replace HR2 := zb hka hkb HR2); (try replace HR3 := zb hka hkb HR3); (try replace HM := zb hka hkb HM); (try replace HG := zb hka hkb HG); (try replace HG2 := zb hka hkb HG2); (try replace HO2 := zo hka hkb HO2); replace HK := zt HK hka hkb; have hsz8 := hkb.size_; have hsy8 := hka.size_; (try simp only [World.size_alloc, World.size_drew, World.heap_drewN, World.size_setCell] at hsz8 hsy8); replace HS := Lib.hid hd8.src; clear hka hkb hd8 hlS8; have hlS8 := HS.out.lt
          go_wp2_with fail
          refine hK.out _ _ (⟨HM.out, HG2.out⟩) (fun hHeld => ?_)
          clear hK K
          try simp only [Act.put, List.setIfInBounds_toArray, List.set_cons_zero, List.set_cons_succ]
          refine wpAnyH_ready (rs := [4]) (by kernel_rfl) (by simp) ?_
          refine AllReadyH.cons rfl (fun K hK => ?_) AllReadyH.nil
          refine step_store_part 32 _ _ _ 0 (.agg #[.int .i64 R2.ch.dg, .int .i64 R2.ch.tn, .string R2.ch.nm, .slice (some ⟨g2, 0, none⟩) R2.ch.zs.length c2, .int .i64 R2.ch.wd, .int .i64 R2.ch.lf, .int .i64 R2.ch.rt, .int .i64 R2.ad, .int .i64 R2.at_, .int .i64 R2.bd, .int .i64 R2.bt, .int .i64 R2.cd, .int .i64 R2.ct, .int .i64 R2.dd, .int .i64 R2.dt, .int .i64 R2.ey, .int .i64 R2.bo]) #[.int .i64 R2.ch.dg, .int .i64 R2.ch.tn, .string R2.ch.nm, .slice (some ⟨g2, 0, none⟩) R2.ch.zs.length c2, .int .i64 R2.ch.wd, .int .i64 R2.ch.lf, .int .i64 R2.ch.rt, .int .i64 R2.ad, .int .i64 R2.at_, .int .i64 R2.bd, .int .i64 R2.bt, .int .i64 R2.cd, .int .i64 R2.ct, .int .i64 R2.dd, .int .i64 R2.dt, .int .i64 R2.ey, .int .i64 R2.bo] (Blk.kp (zk0 HK) (by omega) HR1.out) rfl rfl rfl rfl rfl (by rfl) (by kernel_rfl) (by simp [Value.oneCell']) (by simp) ?_; intro wS hBS hkb; simp only [setL, List.setIfInBounds_toArray, List.set_cons_zero, List.set_cons_succ] at hBS; have hka := zka HK hkb; have hlSo := HS.out.lt; (try replace HM := zb hka hkb HM); (try replace HG := zb hka hkb HG); (try replace HG2 := zb hka hkb HG2); (try replace HR2 := zb hka hkb HR2); (try replace HR3 := zb hka hkb HR3); (try replace HO2 := zo hka hkb HO2); (try replace HS := Lib.hid (Src.kpg2 HS.out (by repeat (with_reducible first | exact Below.refl _ _ | refine Bel.alloc ?_ _ | refine Below.drew ?_ | refine Bel.drewN ?_ _)) hkb (by omega))); replace HR1 := Lib.hid hBS; replace HK := Lib.hid (Kp.own hkb (by omega) (Kp.trans HK.out hka)); have hszS := hkb.size_; have hsyS := hka.size_; (try simp only [World.size_alloc, World.size_drew, World.heap_drewN, World.size_setCell] at hszS hsyS); clear hBS hka hkb hlSo; have hlSS := HS.out.lt
          refine hK.out _ _ (⟨HM.out, HG2.out⟩) (fun hHeld => ?_)
          clear hK K
          try simp only [Act.put, List.setIfInBounds_toArray, List.set_cons_zero, List.set_cons_succ]
          refine wpAnyH_ready (rs := [5]) (by kernel_rfl) (by simp) ?_
          refine AllReadyH.cons rfl (fun K hK => ?_) AllReadyH.nil
          refine step_store_part 25 _ _ _ 0 (.agg #[.int .i64 d8, .int .i64 t8]) #[.int .i64 d8, .int .i64 t8] (Blk.kp (zk0 HK) (by omega) HR2.out) rfl rfl rfl rfl rfl (by rfl) (by kernel_rfl) (by simp [Value.oneCell']) (by simp) ?_; intro wS hBS hkb; simp only [setL, List.setIfInBounds_toArray, List.set_cons_zero, List.set_cons_succ] at hBS; have hka := zka HK hkb; have hlSo := HS.out.lt; (try replace HM := zb hka hkb HM); (try replace HG := zb hka hkb HG); (try replace HG2 := zb hka hkb HG2); (try replace HR1 := zb hka hkb HR1); (try replace HR3 := zb hka hkb HR3); (try replace HO2 := zo hka hkb HO2); (try replace HS := Lib.hid (Src.kpg2 HS.out (by repeat (with_reducible first | exact Below.refl _ _ | refine Bel.alloc ?_ _ | refine Below.drew ?_ | refine Bel.drewN ?_ _)) hkb (by omega))); replace HR2 := Lib.hid hBS; replace HK := Lib.hid (Kp.own hkb (by omega) (Kp.trans HK.out hka)); have hszS := hkb.size_; have hsyS := hka.size_; (try simp only [World.size_alloc, World.size_drew, World.heap_drewN, World.size_setCell] at hszS hsyS); clear hBS hka hkb hlSo; have hlSS := HS.out.lt
          refine hK.out _ _ (⟨HM.out, HG2.out⟩) (fun hHeld => ?_)
          clear hK K
          try simp only [Act.put, List.setIfInBounds_toArray, List.set_cons_zero, List.set_cons_succ]
          refine wpAnyH_ready (rs := [6]) (by kernel_rfl) (by simp) ?_
          refine AllReadyH.cons rfl (fun K hK => ?_) AllReadyH.nil
          refine step_store_part 25 _ _ _ 0 (.agg #[.int .i64 fd4, .int .i64 ft4]) #[.int .i64 fd4, .int .i64 ft4] (Blk.kp (zk0 HK) (by omega) HR3.out) rfl rfl rfl rfl rfl (by rfl) (by kernel_rfl) (by simp [Value.oneCell']) (by simp) ?_; intro wS hBS hkb; simp only [setL, List.setIfInBounds_toArray, List.set_cons_zero, List.set_cons_succ] at hBS; have hka := zka HK hkb; have hlSo := HS.out.lt; (try replace HM := zb hka hkb HM); (try replace HG := zb hka hkb HG); (try replace HG2 := zb hka hkb HG2); (try replace HR1 := zb hka hkb HR1); (try replace HR2 := zb hka hkb HR2); (try replace HO2 := zo hka hkb HO2); (try replace HS := Lib.hid (Src.kpg2 HS.out (by repeat (with_reducible first | exact Below.refl _ _ | refine Bel.alloc ?_ _ | refine Below.drew ?_ | refine Bel.drewN ?_ _)) hkb (by omega))); replace HR3 := Lib.hid hBS; replace HK := Lib.hid (Kp.own hkb (by omega) (Kp.trans HK.out hka)); have hszS := hkb.size_; have hsyS := hka.size_; (try simp only [World.size_alloc, World.size_drew, World.heap_drewN, World.size_setCell] at hszS hsyS); clear hBS hka hkb hlSo; have hlSS := HS.out.lt
          refine hK.out _ _ (⟨HM.out, HG2.out⟩) (fun hHeld => ?_)
          clear hK K
          try simp only [Act.put, List.setIfInBounds_toArray, List.set_cons_zero, List.set_cons_succ]
          refine wpAnyH_done (by kernel_rfl) ?_ _
          go_wp2
          exact bodyPost_ret (results_3 rfl (resF_cell HR1.out Tryz.underlying32 (by kernel_rfl) rfl) (resF_cell HR2.out Tryz.underlying25 (by kernel_rfl) rfl) (resF_cell HR3.out Tryz.underlying25 (by kernel_rfl) rfl)) rfl ⟨R2, g2, c2, d8, t8, fd4, ft4, rfl, by omega, by omega, Own.ge_mono HO2.out (by omega), Kp.toBel HK.out (by omega)⟩
        · go_upto_region 9 with (fail)
          refine wp_region_held_drew (S := fun W => Blk W w2.heap.size 32 #[.int .i64 R2.ch.dg, .int .i64 R2.ch.tn, .string R2.ch.nm, .slice (some ⟨g2, 0, none⟩) R2.ch.zs.length c2, .int .i64 R2.ch.wd, .int .i64 R2.ch.lf, .int .i64 R2.ch.rt, .int .i64 R2.ad, .int .i64 R2.at_, .int .i64 R2.bd, .int .i64 R2.bt, .int .i64 R2.cd, .int .i64 R2.ct, .int .i64 R2.dd, .int .i64 R2.dt, .int .i64 R2.ey, .int .i64 R2.bo] ∧ Blk W Y3 25 #[.int .i64 fz, .int .i64 ft3] ∧ Blk W Y4 25 #[.int .i64 fd4, .int .i64 ft4]) (by kernel_rfl) (⟨HM.out.drew, HG.out.drew, HG2.out.drew⟩) (fun hHeld => ?_)
          replace HR1 := Lib.hid HR1.out.drew
          replace HR2 := Lib.hid HR2.out.drew
          replace HR3 := Lib.hid HR3.out.drew
          replace HM := Lib.hid HM.out.drew
          replace HG := Lib.hid HG.out.drew
          replace HG2 := Lib.hid HG2.out.drew
          replace HO2 := Lib.hid HO2.out.drew
          replace HS := Lib.hid HS.out.drew
          replace HK := Lib.hid HK.out.drew
          have hsd : w7.drew.heap.size = w7.heap.size := rfl
          rw [← hsd] at hlZ
          clear hsd
          generalize w7.drew = v9 at HR1 HR2 HR3 HM HG HG2 HO2 HS HK hHeld hlZ ⊢
          refine wpAnyH_take (i := 0) (v := .agg #[.int .i64 R2.ch.dg, .int .i64 R2.ch.tn, .string R2.ch.nm, .slice (some ⟨g2, 0, none⟩) R2.ch.zs.length c2, .int .i64 R2.ch.wd, .int .i64 R2.ch.lf, .int .i64 R2.ch.rt, .int .i64 R2.ad, .int .i64 R2.at_, .int .i64 R2.bd, .int .i64 R2.bt, .int .i64 R2.cd, .int .i64 R2.ct, .int .i64 R2.dd, .int .i64 R2.dt, .int .i64 R2.ey, .int .i64 R2.bo]) rfl (by kernel_rfl) (by kernel_rfl) (by kernel_rfl) (fun _ _ _ h => h) (yieldsIf_load_blk 32 _ (w2.heap.size) (fun _ h => h.1) Tryz.underlying32 (by kernel_rfl) (by rfl) rfl rfl) hHeld ?_
          simp only [Act.put, List.getElem_toArray, List.getElem_cons_succ, List.getElem_cons_zero, List.setIfInBounds_toArray, List.set_cons_zero, List.set_cons_succ]
          refine wpAnyH_take (i := 1) (v := .agg #[.int .i64 fz, .int .i64 ft3]) rfl (by kernel_rfl) (by kernel_rfl) (by kernel_rfl) (fun _ _ _ h => h) (yieldsIf_load_blk 25 _ (Y3) (fun _ h => h.2.1) Tryz.underlying25 (by kernel_rfl) (by rfl) rfl rfl) hHeld ?_
          simp only [Act.put, List.getElem_toArray, List.getElem_cons_succ, List.getElem_cons_zero, List.setIfInBounds_toArray, List.set_cons_zero, List.set_cons_succ]
          refine wpAnyH_take (i := 2) (v := .agg #[.int .i64 fd4, .int .i64 ft4]) rfl (by kernel_rfl) (by kernel_rfl) (by kernel_rfl) (fun _ _ _ h => h) (yieldsIf_load_blk 25 _ (Y4) (fun _ h => h.2.2) Tryz.underlying25 (by kernel_rfl) (by rfl) rfl rfl) hHeld ?_
          simp only [Act.put, List.getElem_toArray, List.getElem_cons_succ, List.getElem_cons_zero, List.setIfInBounds_toArray, List.set_cons_zero, List.set_cons_succ]
          refine wpAnyH_ready (rs := [3]) (by kernel_rfl) (by simp) ?_
          refine AllReadyH.cons rfl (fun K hK => ?_) AllReadyH.nil
          refine step_store_part 32 _ _ _ 0 (.agg #[.int .i64 R2.ch.dg, .int .i64 R2.ch.tn, .string R2.ch.nm, .slice (some ⟨g2, 0, none⟩) R2.ch.zs.length c2, .int .i64 R2.ch.wd, .int .i64 R2.ch.lf, .int .i64 R2.ch.rt, .int .i64 R2.ad, .int .i64 R2.at_, .int .i64 R2.bd, .int .i64 R2.bt, .int .i64 R2.cd, .int .i64 R2.ct, .int .i64 R2.dd, .int .i64 R2.dt, .int .i64 R2.ey, .int .i64 R2.bo]) #[.int .i64 R2.ch.dg, .int .i64 R2.ch.tn, .string R2.ch.nm, .slice (some ⟨g2, 0, none⟩) R2.ch.zs.length c2, .int .i64 R2.ch.wd, .int .i64 R2.ch.lf, .int .i64 R2.ch.rt, .int .i64 R2.ad, .int .i64 R2.at_, .int .i64 R2.bd, .int .i64 R2.bt, .int .i64 R2.cd, .int .i64 R2.ct, .int .i64 R2.dd, .int .i64 R2.dt, .int .i64 R2.ey, .int .i64 R2.bo] (Blk.kp (zk0 HK) (by omega) HR1.out) rfl rfl rfl rfl rfl (by rfl) (by kernel_rfl) (by simp [Value.oneCell']) (by simp) ?_; intro wS hBS hkb; simp only [setL, List.setIfInBounds_toArray, List.set_cons_zero, List.set_cons_succ] at hBS; have hka := zka HK hkb; have hlSo := HS.out.lt; (try replace HM := zb hka hkb HM); (try replace HG := zb hka hkb HG); (try replace HG2 := zb hka hkb HG2); (try replace HR2 := zb hka hkb HR2); (try replace HR3 := zb hka hkb HR3); (try replace HO2 := zo hka hkb HO2); (try replace HS := Lib.hid (Src.kpg2 HS.out (by repeat (with_reducible first | exact Below.refl _ _ | refine Bel.alloc ?_ _ | refine Below.drew ?_ | refine Bel.drewN ?_ _)) hkb (by omega))); replace HR1 := Lib.hid hBS; replace HK := Lib.hid (Kp.own hkb (by omega) (Kp.trans HK.out hka)); have hszS := hkb.size_; have hsyS := hka.size_; (try simp only [World.size_alloc, World.size_drew, World.heap_drewN, World.size_setCell] at hszS hsyS); clear hBS hka hkb hlSo; have hlSS := HS.out.lt
          refine hK.out _ _ (⟨HM.out, HG.out, HG2.out⟩) (fun hHeld => ?_)
          clear hK K
          try simp only [Act.put, List.setIfInBounds_toArray, List.set_cons_zero, List.set_cons_succ]
          refine wpAnyH_ready (rs := [4]) (by kernel_rfl) (by simp) ?_
          refine AllReadyH.cons rfl (fun K hK => ?_) AllReadyH.nil
          refine step_store_part 25 _ _ _ 0 (.agg #[.int .i64 fz, .int .i64 ft3]) #[.int .i64 fz, .int .i64 ft3] (Blk.kp (zk0 HK) (by omega) HR2.out) rfl rfl rfl rfl rfl (by rfl) (by kernel_rfl) (by simp [Value.oneCell']) (by simp) ?_; intro wS hBS hkb; simp only [setL, List.setIfInBounds_toArray, List.set_cons_zero, List.set_cons_succ] at hBS; have hka := zka HK hkb; have hlSo := HS.out.lt; (try replace HM := zb hka hkb HM); (try replace HG := zb hka hkb HG); (try replace HG2 := zb hka hkb HG2); (try replace HR1 := zb hka hkb HR1); (try replace HR3 := zb hka hkb HR3); (try replace HO2 := zo hka hkb HO2); (try replace HS := Lib.hid (Src.kpg2 HS.out (by repeat (with_reducible first | exact Below.refl _ _ | refine Bel.alloc ?_ _ | refine Below.drew ?_ | refine Bel.drewN ?_ _)) hkb (by omega))); replace HR2 := Lib.hid hBS; replace HK := Lib.hid (Kp.own hkb (by omega) (Kp.trans HK.out hka)); have hszS := hkb.size_; have hsyS := hka.size_; (try simp only [World.size_alloc, World.size_drew, World.heap_drewN, World.size_setCell] at hszS hsyS); clear hBS hka hkb hlSo; have hlSS := HS.out.lt
          refine hK.out _ _ (⟨HM.out, HG.out, HG2.out⟩) (fun hHeld => ?_)
          clear hK K
          try simp only [Act.put, List.setIfInBounds_toArray, List.set_cons_zero, List.set_cons_succ]
          refine wpAnyH_ready (rs := [5]) (by kernel_rfl) (by simp) ?_
          refine AllReadyH.cons rfl (fun K hK => ?_) AllReadyH.nil
          refine step_store_part 25 _ _ _ 0 (.agg #[.int .i64 fd4, .int .i64 ft4]) #[.int .i64 fd4, .int .i64 ft4] (Blk.kp (zk0 HK) (by omega) HR3.out) rfl rfl rfl rfl rfl (by rfl) (by kernel_rfl) (by simp [Value.oneCell']) (by simp) ?_; intro wS hBS hkb; simp only [setL, List.setIfInBounds_toArray, List.set_cons_zero, List.set_cons_succ] at hBS; have hka := zka HK hkb; have hlSo := HS.out.lt; (try replace HM := zb hka hkb HM); (try replace HG := zb hka hkb HG); (try replace HG2 := zb hka hkb HG2); (try replace HR1 := zb hka hkb HR1); (try replace HR2 := zb hka hkb HR2); (try replace HO2 := zo hka hkb HO2); (try replace HS := Lib.hid (Src.kpg2 HS.out (by repeat (with_reducible first | exact Below.refl _ _ | refine Bel.alloc ?_ _ | refine Below.drew ?_ | refine Bel.drewN ?_ _)) hkb (by omega))); replace HR3 := Lib.hid hBS; replace HK := Lib.hid (Kp.own hkb (by omega) (Kp.trans HK.out hka)); have hszS := hkb.size_; have hsyS := hka.size_; (try simp only [World.size_alloc, World.size_drew, World.heap_drewN, World.size_setCell] at hszS hsyS); clear hBS hka hkb hlSo; have hlSS := HS.out.lt
          refine hK.out _ _ (⟨HM.out, HG.out, HG2.out⟩) (fun hHeld => ?_)
          clear hK K
          try simp only [Act.put, List.setIfInBounds_toArray, List.set_cons_zero, List.set_cons_succ]
          refine wpAnyH_done (by kernel_rfl) ?_ _
          go_wp2
          exact bodyPost_ret (results_3 rfl (resF_cell HR1.out Tryz.underlying32 (by kernel_rfl) rfl) (resF_cell HR2.out Tryz.underlying25 (by kernel_rfl) rfl) (resF_cell HR3.out Tryz.underlying25 (by kernel_rfl) rfl)) rfl ⟨R2, g2, c2, fz, ft3, fd4, ft4, rfl, by omega, by omega, Own.ge_mono HO2.out (by omega), Kp.toBel HK.out (by omega)⟩
end Go.Proofs.YtpmcgicopogbhaaGreat
