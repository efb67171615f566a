/- Draws: releases. Conditions: as stated at each contract. -/
import Derived.Test.YtpmcgicopogbhaaGreatProg
import Derived.Test.YtpmcgicopogbhaaGreatBase
import Derived.Test.YtpmcgicopogbhaaGreatZz
import Derived.Test.YtpmcgicopogbhaaGreatRw
import Derived.Test.YtpmcgicopogbhaaGreatRg
import Derived.Test.YtpmcgicopogbhaaGreatL01
import Derived.Test.YtpmcgicopogbhaaGreatCp
import Derived.Test.YtpmcgicopogbhaaGreatCm
import Derived.Test.YtpmcgicopogbhaaGreatL18
import Derived.Test.YtpmcgicopogbhaaGreatL27o
import Derived.Test.YtpmcgicopogbhaaGreatD00
import Derived.Test.YtpmcgicopogbhaaGreatD01
import Derived.Test.YtpmcgicopogbhaaGreatD02
import Derived.Test.YtpmcgicopogbhaaGreatD18
import Derived.Test.YtpmcgicopogbhaaGreatD23
import Derived.Test.YtpmcgicopogbhaaGreatD27
import Derived.Test.YtpmcgicopogbhaaGreatD27b
import Derived.WalkKit
import Derived.WalkSpells
import Derived.WalkLawsBesides
import Derived.Lib.Hide
import Derived.Deep.QuietTactic
import Derived.BigQuiet
import Derived.Deep.Draws
import Derived.Deep.RegionHeld3
import Derived.Deep.Cut
namespace Go.Proofs.YtpmcgicopogbhaaGreat
open Go.RowKit
set_option linter.unusedVariables false
set_option linter.unusedSimpArgs false
/-- A release is drawn. -/
def RlQ (w : World) (e : Ending) (w' : World) : Prop := ∃ (R : Re) (g c : Nat), e = .returned (.agg #[.int .i64 R.ch.dg, .int .i64 R.ch.tn, .string R.ch.nm, .slice (some ⟨g, 0, none⟩) R.ch.zs.length c, .int .i64 R.ch.wd, .int .i64 R.ch.lf, .int .i64 R.ch.rt, .int .i64 R.ad, .int .i64 R.at_, .int .i64 R.bd, .int .i64 R.bt, .int .i64 R.cd, .int .i64 R.ct, .int .i64 R.dd, .int .i64 R.dt, .int .i64 R.ey, .int .i64 R.bo]) ∧ R.ch.zs.length ≤ 27 ∧ R.ch.nm.size ≤ 27 ∧ Own w' w.heap.size 2 (.slice (some ⟨g, 0, none⟩) R.ch.zs.length c) R.ch.zs ∧ Below w.heap.size w w'
set_option maxRecDepth 20000 in
set_option maxHeartbeats 4000000 in
theorem DrawTightenBound_c (A : Option Addr) (c : Nat) (zs : List Int) (hz : zs.length ≤ 4096) (w : World) (hA : Byts w A zs) :
    Calls Tryz.prog 6 #[.slice A zs.length c] w (RlQ w) := by
  have HA := Lib.hid hA
  have HB := Lib.hid (Below.refl w.heap.size w)
  have HR1 := Lib.hid (by have h := Blk.new w 32 #[.int .i64 0, .int .i64 0, .string ⟨#[]⟩, .slice none 0 0, .int .i64 0, .int .i64 0, .int .i64 0, .int .i64 0, .int .i64 0, .int .i64 0, .int .i64 0, .int .i64 0, .int .i64 0, .int .i64 0, .int .i64 0, .int .i64 0, .int .i64 0]; (try simp only [World.size_alloc] at h); exact h)
  replace HB := Lib.hid (Bel.alloc HB.out (.cells #[.int .i64 0, .int .i64 0, .string ⟨#[]⟩, .slice none 0 0, .int .i64 0, .int .i64 0, .int .i64 0, .int .i64 0, .int .i64 0, .int .i64 0, .int .i64 0, .int .i64 0, .int .i64 0, .int .i64 0, .int .i64 0, .int .i64 0, .int .i64 0] 32))
  clear hA
  go_enter Tryz.func6, Tryz.ntmps6
  go_wp2_with fail
  go_at_call 44; refine (l01From_c A c zs hz _ (Byts.step (by repeat (with_reducible first | exact Below.refl _ _ | refine Bel.alloc ?_ _)) HA.out)).mono ?_; rintro e w1 ⟨X, rfl, hX, hS, hb1⟩; replace HR1 := Lib.hid (Blk.step hb1 HR1.out); have HS := Lib.hid hS; have HK := Lib.hid (Kp.below (X := X) (a := w) hb1 (by repeat (with_reducible first | exact Kp.refl _ _ | refine Kp.alloc _ ?_ | refine Kp.drew ?_ | refine Kp.drewN _ ?_))); have hlX := hS.lt; have hsz1 := hb1.size; (try simp only [World.size_alloc] at hX hsz1); clear hS hb1
  clear HB
  go_wp2_with fail
  go_at_call 45; refine (l27Draw_c X A zs _ (zsr HS)).mono ?_; rintro e w2 ⟨R2, g2, c2, rfl, hn2, hm2, hO2, hd2⟩; obtain ⟨hq2, hr2⟩ := World.ownsRow.lt hO2 g2 rfl; (try simp only [World.size_alloc] at hq2); have HO2 := Lib.hid hO2; clear hO2; have hkb := hd2.kp; have hka := zka HK hkb; have hlS2 := HS.out.lt; (try replace HR1 := zb hka hkb HR1); replace HK := zt HK hka hkb; have hsz2 := hkb.size_; have hsy2 := hka.size_; (try simp only [World.size_alloc, World.size_drew, World.heap_drewN, World.size_setCell] at hsz2 hsy2); replace HS := Lib.hid hd2.src; clear hka hkb hd2 hlS2; have hlS2 := HS.out.lt
  have HM := Lib.hid (Blk.new w2 32 #[.int .i64 R2.ch.dg, .int .i64 R2.ch.tn, .string R2.ch.nm, .slice (some ⟨g2, 0, none⟩) R2.ch.zs.length c2, .int .i64 R2.ch.wd, .int .i64 R2.ch.lf, .int .i64 R2.ch.rt, .int .i64 R2.ad, .int .i64 R2.at_, .int .i64 R2.bd, .int .i64 R2.bt, .int .i64 R2.cd, .int .i64 R2.ct, .int .i64 R2.dd, .int .i64 R2.dt, .int .i64 R2.ey, .int .i64 R2.bo])
  replace HR1 := Lib.hid (Blk.alloc (.cells #[.int .i64 R2.ch.dg, .int .i64 R2.ch.tn, .string R2.ch.nm, .slice (some ⟨g2, 0, none⟩) R2.ch.zs.length c2, .int .i64 R2.ch.wd, .int .i64 R2.ch.lf, .int .i64 R2.ch.rt, .int .i64 R2.ad, .int .i64 R2.at_, .int .i64 R2.bd, .int .i64 R2.bt, .int .i64 R2.cd, .int .i64 R2.ct, .int .i64 R2.dd, .int .i64 R2.dt, .int .i64 R2.ey, .int .i64 R2.bo] 32) HR1.out)
  replace HO2 := Lib.hid (Own.alloc (.cells #[.int .i64 R2.ch.dg, .int .i64 R2.ch.tn, .string R2.ch.nm, .slice (some ⟨g2, 0, none⟩) R2.ch.zs.length c2, .int .i64 R2.ch.wd, .int .i64 R2.ch.lf, .int .i64 R2.ch.rt, .int .i64 R2.ad, .int .i64 R2.at_, .int .i64 R2.bd, .int .i64 R2.bt, .int .i64 R2.cd, .int .i64 R2.ct, .int .i64 R2.dd, .int .i64 R2.dt, .int .i64 R2.ey, .int .i64 R2.bo] 32) HO2.out)
  replace HS := Lib.hid (Src.alloc (.cells #[.int .i64 R2.ch.dg, .int .i64 R2.ch.tn, .string R2.ch.nm, .slice (some ⟨g2, 0, none⟩) R2.ch.zs.length c2, .int .i64 R2.ch.wd, .int .i64 R2.ch.lf, .int .i64 R2.ch.rt, .int .i64 R2.ad, .int .i64 R2.at_, .int .i64 R2.bd, .int .i64 R2.bt, .int .i64 R2.cd, .int .i64 R2.ct, .int .i64 R2.dd, .int .i64 R2.dt, .int .i64 R2.ey, .int .i64 R2.bo] 32) HS.out)
  replace HK := Lib.hid (Kp.alloc (.cells #[.int .i64 R2.ch.dg, .int .i64 R2.ch.tn, .string R2.ch.nm, .slice (some ⟨g2, 0, none⟩) R2.ch.zs.length c2, .int .i64 R2.ch.wd, .int .i64 R2.ch.lf, .int .i64 R2.ch.rt, .int .i64 R2.ad, .int .i64 R2.at_, .int .i64 R2.bd, .int .i64 R2.bt, .int .i64 R2.cd, .int .i64 R2.ct, .int .i64 R2.dd, .int .i64 R2.dt, .int .i64 R2.ey, .int .i64 R2.bo] 32) HK.out)
  have hlM := HM.out.lt
  go_wp2_with fail
  go_at_call 46; refine (l01Next_c X A zs _ (by omega) _ (zsr HS)).mono ?_; rintro e w3 ⟨x3, rfl, hx3, hy3, hd3⟩; (try rw [Int.max_eq_left (by omega)] at hy3); have hkb := hd3.kp; have hka := zka HK hkb; have hlS3 := HS.out.lt; (try replace HR1 := zb hka hkb HR1); (try replace HM := zb hka hkb HM); (try replace HO2 := zo hka hkb HO2); replace HK := zt HK hka hkb; have hsz3 := hkb.size_; have hsy3 := hka.size_; (try simp only [World.size_alloc, World.size_drew, World.heap_drewN, World.size_setCell] at hsz3 hsy3); replace HS := Lib.hid hd3.src; clear hka hkb hd3 hlS3; have hlS3 := HS.out.lt
  have hlM3 := HM.out.lt
  by_cases q : x3 = 0
  · go_wp2_with (first | (refine wpList_store_part 2 _ _ _ 5 (.int .i64 100) #[.int .i64 100] (Blk.kp (zk0 HK) (by first | omega | (simp; omega)) HM.out) rfl rfl rfl rfl (by rfl) (by kernel_rfl) (by simp [Value.oneCell']) (by simp) ?_; intro wS hBS hkb; simp only [setL, List.setIfInBounds_toArray, List.set_cons_zero, List.set_cons_succ] at hBS; have hka := zka HK hkb; have hlSo := HS.out.lt; (try replace HR1 := zb hka hkb HR1); (try replace HO2 := zo hka hkb HO2); (try replace HS := Lib.hid (Src.kpg2 HS.out (by repeat (with_reducible first | exact Below.refl _ _ | refine Bel.alloc ?_ _ | refine Below.drew ?_ | refine Bel.drewN ?_ _)) hkb (by first | omega | (simp; omega)))); replace HM := Lib.hid hBS; replace HK := Lib.hid (Kp.own hkb (by first | omega | (simp; omega)) (Kp.trans HK.out hka)); have hszS := hkb.size_; have hsyS := hka.size_; (try simp only [World.size_alloc, World.size_drew, World.heap_drewN, World.size_setCell] at hszS hsyS); clear hBS hka hkb hlSo; have hlSS := HS.out.lt) | (refine wpList_store_part 2 _ _ _ 15 (.int .i64 200) #[.int .i64 200] (Blk.kp (zk0 HK) (by first | omega | (simp; omega)) HM.out) rfl rfl rfl rfl (by rfl) (by kernel_rfl) (by simp [Value.oneCell']) (by simp) ?_; intro wS hBS hkb; simp only [setL, List.setIfInBounds_toArray, List.set_cons_zero, List.set_cons_succ] at hBS; have hka := zka HK hkb; have hlSo := HS.out.lt; (try replace HR1 := zb hka hkb HR1); (try replace HO2 := zo hka hkb HO2); (try replace HS := Lib.hid (Src.kpg2 HS.out (by repeat (with_reducible first | exact Below.refl _ _ | refine Bel.alloc ?_ _ | refine Below.drew ?_ | refine Bel.drewN ?_ _)) hkb (by first | omega | (simp; omega)))); replace HM := Lib.hid hBS; replace HK := Lib.hid (Kp.own hkb (by first | omega | (simp; omega)) (Kp.trans HK.out hka)); have hszS := hkb.size_; have hsyS := hka.size_; (try simp only [World.size_alloc, World.size_drew, World.heap_drewN, World.size_setCell] at hszS hsyS); clear hBS hka hkb hlSo; have hlSS := HS.out.lt) | (refine wpList_load_blkG 32 _ _ (Blk.kp (zk0 HK) (by first | omega | (simp; omega)) HM.out) Tryz.underlying32 (by kernel_rfl) rfl rfl (by rfl) ?_) | (refine wpList_store_part 32 _ _ _ 0 _ _ (Blk.kp (zk0 HK) (by first | omega | (simp; omega)) HR1.out) rfl rfl rfl rfl (by rfl) (by kernel_rfl) (by simp [go_sem, Value.cells, Value.oneCell']) (by simp [go_sem, Value.cells]) ?_; intro wS hBS hkb; simp [go_sem, Value.cells, setL] at hBS; have hka := zka HK hkb; have hlSo := HS.out.lt; (try replace HM := zb hka hkb HM); (try replace HO2 := zo hka hkb HO2); (try replace HS := Lib.hid (Src.kpg2 HS.out (by repeat (with_reducible first | exact Below.refl _ _ | refine Bel.alloc ?_ _ | refine Below.drew ?_ | refine Bel.drewN ?_ _)) hkb (by first | omega | (simp; omega)))); replace HR1 := Lib.hid hBS; replace HK := Lib.hid (Kp.own hkb (by first | omega | (simp; omega)) (Kp.trans HK.out hka)); have hszS := hkb.size_; have hsyS := hka.size_; (try simp only [World.size_alloc, World.size_drew, World.heap_drewN, World.size_setCell] at hszS hsyS); clear hBS hka hkb hlSo; have hlSS := HS.out.lt))
    exact bodyPost_ret (results_blk HR1.out Tryz.underlying32 (by kernel_rfl) rfl rfl) rfl ⟨({ R2 with ch := { R2.ch with lf := 100 }, ey := 200 } : Re), g2, c2, rfl, hn2, hm2, Own.ge_mono HO2.out (by omega), Kp.toBel HK.out (by omega)⟩
  · go_wp2_with (first | (refine wpList_load_blkG 32 _ _ (Blk.kp (zk0 HK) (by first | omega | (simp; omega)) HM.out) Tryz.underlying32 (by kernel_rfl) rfl rfl (by rfl) ?_) | (refine wpList_store_part 32 _ _ _ 0 _ _ (Blk.kp (zk0 HK) (by first | omega | (simp; omega)) HR1.out) rfl rfl rfl rfl (by rfl) (by kernel_rfl) (by simp [go_sem, Value.cells, Value.oneCell']) (by simp [go_sem, Value.cells]) ?_; intro wS hBS hkb; simp [go_sem, Value.cells, setL] at hBS; have hka := zka HK hkb; have hlSo := HS.out.lt; (try replace HM := zb hka hkb HM); (try replace HO2 := zo hka hkb HO2); (try replace HS := Lib.hid (Src.kpg2 HS.out (by repeat (with_reducible first | exact Below.refl _ _ | refine Bel.alloc ?_ _ | refine Below.drew ?_ | refine Bel.drewN ?_ _)) hkb (by first | omega | (simp; omega)))); replace HR1 := Lib.hid hBS; replace HK := Lib.hid (Kp.own hkb (by first | omega | (simp; omega)) (Kp.trans HK.out hka)); have hszS := hkb.size_; have hsyS := hka.size_; (try simp only [World.size_alloc, World.size_drew, World.heap_drewN, World.size_setCell] at hszS hsyS); clear hBS hka hkb hlSo; have hlSS := HS.out.lt))
    exact bodyPost_ret (results_blk HR1.out Tryz.underlying32 (by kernel_rfl) rfl rfl) rfl ⟨R2, g2, c2, rfl, hn2, hm2, Own.ge_mono HO2.out (by omega), Kp.toBel HK.out (by omega)⟩
/-- A chart and a number are drawn. -/
def SfQ (w : World) (e : Ending) (w' : World) : Prop := ∃ (C : Ch) (g c : Nat) (x : Int), e = .returned (.tuple #[.agg #[.int .i64 C.dg, .int .i64 C.tn, .string C.nm, .slice (some ⟨g, 0, none⟩) C.zs.length c, .int .i64 C.wd, .int .i64 C.lf, .int .i64 C.rt], .int .i64 x]) ∧ C.zs.length ≤ 27 ∧ C.nm.size ≤ 27 ∧ Own w' w.heap.size 2 (.slice (some ⟨g, 0, none⟩) C.zs.length c) C.zs ∧ Below w.heap.size w w'
set_option maxRecDepth 20000 in
set_option maxHeartbeats 4000000 in
theorem DrawSafeBound_c (A : Option Addr) (c : Nat) (zs : List Int) (hz : zs.length ≤ 4096) (w : World) (hA : Byts w A zs) :
    Calls Tryz.prog 9 #[.slice A zs.length c] w (SfQ w) := by
  have HA := Lib.hid hA
  have HB := Lib.hid (Below.refl w.heap.size w)
  have HR1 := Lib.hid (by have h := Blk.new w 30 #[.int .i64 0, .int .i64 0, .string ⟨#[]⟩, .slice none 0 0, .int .i64 0, .int .i64 0, .int .i64 0]; (try simp only [World.size_alloc] at h); exact h)
  replace HB := Lib.hid (Bel.alloc HB.out (.cells #[.int .i64 0, .int .i64 0, .string ⟨#[]⟩, .slice none 0 0, .int .i64 0, .int .i64 0, .int .i64 0] 30))
  clear hA
  go_enter Tryz.func9, Tryz.ntmps9
  go_wp2_with fail
  go_at_call 44; refine (l01From_c A c zs hz _ (Byts.step (by repeat (with_reducible first | exact Below.refl _ _ | refine Bel.alloc ?_ _)) HA.out)).mono ?_; rintro e w1 ⟨X, rfl, hX, hS, hb1⟩; replace HR1 := Lib.hid (Blk.step hb1 HR1.out); have HS := Lib.hid hS; have HK := Lib.hid (Kp.below (X := X) (a := w) hb1 (by repeat (with_reducible first | exact Kp.refl _ _ | refine Kp.alloc _ ?_ | refine Kp.drew ?_ | refine Kp.drewN _ ?_))); have hlX := hS.lt; have hsz1 := hb1.size; (try simp only [World.size_alloc] at hX hsz1); clear hS hb1
  clear HB
  go_wp2_with fail
  go_at_call 51; refine (l23Draw_c X A zs _ (zsr HS)).mono ?_; rintro e w2 ⟨C2, g2, c2, rfl, ho2, hn2, hm2, hO2, hd2⟩; obtain ⟨hq2, hr2⟩ := World.ownsRow.lt hO2 g2 rfl; (try simp only [World.size_alloc] at hq2); have HO2 := Lib.hid hO2; clear hO2 ho2; have hkb := hd2.kp; have hka := zka HK hkb; have hlS2 := HS.out.lt; (try replace HR1 := zb hka hkb HR1); replace HK := zt HK hka hkb; have hsz2 := hkb.size_; have hsy2 := hka.size_; (try simp only [World.size_alloc, World.size_drew, World.heap_drewN, World.size_setCell] at hsz2 hsy2); replace HS := Lib.hid hd2.src; clear hka hkb hd2 hlS2; have hlS2 := HS.out.lt
  have HM := Lib.hid (Blk.new w2 30 #[.int .i64 C2.dg, .int .i64 C2.tn, .string C2.nm, .slice (some ⟨g2, 0, none⟩) C2.zs.length c2, .int .i64 C2.wd, .int .i64 C2.lf, .int .i64 C2.rt])
  replace HR1 := Lib.hid (Blk.alloc (.cells #[.int .i64 C2.dg, .int .i64 C2.tn, .string C2.nm, .slice (some ⟨g2, 0, none⟩) C2.zs.length c2, .int .i64 C2.wd, .int .i64 C2.lf, .int .i64 C2.rt] 30) HR1.out)
  replace HO2 := Lib.hid (Own.alloc (.cells #[.int .i64 C2.dg, .int .i64 C2.tn, .string C2.nm, .slice (some ⟨g2, 0, none⟩) C2.zs.length c2, .int .i64 C2.wd, .int .i64 C2.lf, .int .i64 C2.rt] 30) HO2.out)
  replace HS := Lib.hid (Src.alloc (.cells #[.int .i64 C2.dg, .int .i64 C2.tn, .string C2.nm, .slice (some ⟨g2, 0, none⟩) C2.zs.length c2, .int .i64 C2.wd, .int .i64 C2.lf, .int .i64 C2.rt] 30) HS.out)
  replace HK := Lib.hid (Kp.alloc (.cells #[.int .i64 C2.dg, .int .i64 C2.tn, .string C2.nm, .slice (some ⟨g2, 0, none⟩) C2.zs.length c2, .int .i64 C2.wd, .int .i64 C2.lf, .int .i64 C2.rt] 30) HK.out)
  have hlZ := HM.out.lt
  go_upto_region 3 with (fail)
  refine wp_region_held_drew (S := fun W => Blk W w2.heap.size 30 #[.int .i64 C2.dg, .int .i64 C2.tn, .string C2.nm, .slice (some ⟨g2, 0, none⟩) C2.zs.length c2, .int .i64 C2.wd, .int .i64 C2.lf, .int .i64 C2.rt] ∧ True) (by kernel_rfl) (⟨HM.out.drew, trivial⟩) (fun hHeld => ?_)
  replace HR1 := Lib.hid HR1.out.drew
  replace HM := Lib.hid HM.out.drew
  replace HO2 := Lib.hid HO2.out.drew
  replace HS := Lib.hid HS.out.drew
  replace HK := Lib.hid HK.out.drew
  have hsd : (w2.alloc (.cells #[.int .i64 C2.dg, .int .i64 C2.tn, .string C2.nm, .slice (some ⟨g2, 0, none⟩) C2.zs.length c2, .int .i64 C2.wd, .int .i64 C2.lf, .int .i64 C2.rt] 30)).drew.heap.size = (w2.alloc (.cells #[.int .i64 C2.dg, .int .i64 C2.tn, .string C2.nm, .slice (some ⟨g2, 0, none⟩) C2.zs.length c2, .int .i64 C2.wd, .int .i64 C2.lf, .int .i64 C2.rt] 30)).heap.size := rfl
  rw [← hsd] at hlZ
  clear hsd
  generalize (w2.alloc (.cells #[.int .i64 C2.dg, .int .i64 C2.tn, .string C2.nm, .slice (some ⟨g2, 0, none⟩) C2.zs.length c2, .int .i64 C2.wd, .int .i64 C2.lf, .int .i64 C2.rt] 30)).drew = v3 at HR1 HM HO2 HS HK hHeld hlZ ⊢
  refine wpAnyH_take (i := 0) (v := .agg #[.int .i64 C2.dg, .int .i64 C2.tn, .string C2.nm, .slice (some ⟨g2, 0, none⟩) C2.zs.length c2, .int .i64 C2.wd, .int .i64 C2.lf, .int .i64 C2.rt]) rfl (by kernel_rfl) (by kernel_rfl) (by kernel_rfl) (fun _ _ _ h => h) (yieldsIf_load_blk 30 _ (w2.heap.size) (fun _ h => h.1) Tryz.underlying30 (by kernel_rfl) (by rfl) rfl rfl) hHeld ?_
  simp only [Act.put, List.getElem_toArray, List.getElem_cons_succ, List.getElem_cons_zero, List.setIfInBounds_toArray, List.set_cons_zero, List.set_cons_succ]
  refine wpAnyH_take (i := 1) (v := (.pointer (some ⟨X, 0, none⟩))) rfl (by kernel_rfl) (by kernel_rfl) (by kernel_rfl) (fun _ _ _ h => h) (Or.inl ⟨by rfl, fun w _ => by simp [go_sem, execOp]⟩) hHeld ?_
  simp only [Act.put, List.getElem_toArray, List.getElem_cons_succ, List.getElem_cons_zero, List.setIfInBounds_toArray, List.set_cons_zero, List.set_cons_succ]
  refine wpAnyH_ready (rs := [2]) (by kernel_rfl) (by simp) ?_
  refine AllReadyH.cons rfl (fun K hK => ?_) AllReadyH.nil
  go_simp
  go_at_call 52; refine (l06DrawEye_c X A zs _ (zsr HS)).mono ?_; rintro e w4 ⟨x4, rfl, hd4⟩; have hkb := hd4.kp; have hka := zka HK hkb; have hlS4 := HS.out.lt; (try replace HR1 := zb hka hkb HR1); (try replace HM := zb hka hkb HM); (try replace HO2 := zo hka hkb HO2); replace HK := zt HK hka hkb; have hsz4 := hkb.size_; have hsy4 := hka.size_; (try simp only [World.size_alloc, World.size_drew, World.heap_drewN, World.size_setCell] at hsz4 hsy4); replace HS := Lib.hid hd4.src; clear hka hkb hd4 hlS4; have hlS4 := HS.out.lt
  go_wp2_with fail
  refine hK.out _ _ (⟨HM.out, trivial⟩) (fun hHeld => ?_)
  clear hK K
  try simp only [Act.put, List.setIfInBounds_toArray, List.set_cons_zero, List.set_cons_succ]
  refine wpAnyH_ready (rs := [3]) (by kernel_rfl) (by simp) ?_
  refine AllReadyH.cons rfl (fun K hK => ?_) AllReadyH.nil
  refine step_store_part 30 _ _ _ 0 (.agg #[.int .i64 C2.dg, .int .i64 C2.tn, .string C2.nm, .slice (some ⟨g2, 0, none⟩) C2.zs.length c2, .int .i64 C2.wd, .int .i64 C2.lf, .int .i64 C2.rt]) #[.int .i64 C2.dg, .int .i64 C2.tn, .string C2.nm, .slice (some ⟨g2, 0, none⟩) C2.zs.length c2, .int .i64 C2.wd, .int .i64 C2.lf, .int .i64 C2.rt] (Blk.kp (zk0 HK) (by first | omega | (simp; omega)) HR1.out) rfl rfl rfl rfl rfl (by rfl) (by kernel_rfl) (by simp [Value.oneCell']) (by simp) ?_; intro wS hBS hkb; simp only [setL, List.setIfInBounds_toArray, List.set_cons_zero, List.set_cons_succ] at hBS; have hka := zka HK hkb; have hlSo := HS.out.lt; (try replace HM := zb hka hkb HM); (try replace HO2 := zo hka hkb HO2); (try replace HS := Lib.hid (Src.kpg2 HS.out (by repeat (with_reducible first | exact Below.refl _ _ | refine Bel.alloc ?_ _ | refine Below.drew ?_ | refine Bel.drewN ?_ _)) hkb (by first | omega | (simp; omega)))); replace HR1 := Lib.hid hBS; replace HK := Lib.hid (Kp.own hkb (by first | omega | (simp; omega)) (Kp.trans HK.out hka)); have hszS := hkb.size_; have hsyS := hka.size_; (try simp only [World.size_alloc, World.size_drew, World.heap_drewN, World.size_setCell] at hszS hsyS); clear hBS hka hkb hlSo; have hlSS := HS.out.lt
  refine hK.out _ _ (⟨HM.out, trivial⟩) (fun hHeld => ?_)
  clear hK K
  try simp only [Act.put, List.setIfInBounds_toArray, List.set_cons_zero, List.set_cons_succ]
  refine wpAnyH_take (i := 4) (v := (.int .i64 x4)) rfl (by kernel_rfl) (by kernel_rfl) (by kernel_rfl) (fun _ _ _ h => h) (Or.inl ⟨by rfl, fun w _ => by simp [go_sem, execOp]⟩) hHeld ?_
  simp only [Act.put, List.getElem_toArray, List.getElem_cons_succ, List.getElem_cons_zero, List.setIfInBounds_toArray, List.set_cons_zero, List.set_cons_succ]
  refine wpAnyH_done (by kernel_rfl) ?_ _
  go_wp2
  exact bodyPost_ret (results_2 rfl (resF_cell HR1.out Tryz.underlying30 (by kernel_rfl) rfl) (resF_tmp _ rfl)) rfl ⟨C2, g2, c2, x4, rfl, by omega, by omega, Own.ge_mono HO2.out (by omega), Kp.toBel HK.out (by omega)⟩
set_option maxRecDepth 20000 in
set_option maxHeartbeats 4000000 in
theorem l27End_c (X : Nat) (A : Option Addr) (zs : List Int) (R : Re) (B : Option Addr) (c : Nat) (w : World) (hS : Src w X A zs) :
    Calls Tryz.prog 66 #[.pointer (some ⟨X, 0, none⟩), .agg #[.int .i64 R.ch.dg, .int .i64 R.ch.tn, .string R.ch.nm, .slice B R.ch.zs.length c, .int .i64 R.ch.wd, .int .i64 R.ch.lf, .int .i64 R.ch.rt, .int .i64 R.ad, .int .i64 R.at_, .int .i64 R.bd, .int .i64 R.bt, .int .i64 R.cd, .int .i64 R.ct, .int .i64 R.dd, .int .i64 R.dt, .int .i64 R.ey, .int .i64 R.bo]] w (DrF false X A zs w) := by
  have hlX := hS.lt
  have HS := Lib.hid (Src.alloc (.cells #[.int .i64 0, .int .i64 0] 25) (Src.alloc (.cells #[.int .i64 R.ch.dg, .int .i64 R.ch.tn, .string R.ch.nm, .slice B R.ch.zs.length c, .int .i64 R.ch.wd, .int .i64 R.ch.lf, .int .i64 R.ch.rt, .int .i64 R.ad, .int .i64 R.at_, .int .i64 R.bd, .int .i64 R.bt, .int .i64 R.cd, .int .i64 R.ct, .int .i64 R.dd, .int .i64 R.dt, .int .i64 R.ey, .int .i64 R.bo] 32) hS))
  have HK := Lib.hid (Kp.alloc (.cells #[.int .i64 0, .int .i64 0] 25) (Kp.alloc (.cells #[.int .i64 R.ch.dg, .int .i64 R.ch.tn, .string R.ch.nm, .slice B R.ch.zs.length c, .int .i64 R.ch.wd, .int .i64 R.ch.lf, .int .i64 R.ch.rt, .int .i64 R.ad, .int .i64 R.at_, .int .i64 R.bd, .int .i64 R.bt, .int .i64 R.cd, .int .i64 R.ct, .int .i64 R.dd, .int .i64 R.dt, .int .i64 R.ey, .int .i64 R.bo] 32) (Kp.refl X w)))
  have HM := Lib.hid (Blk.alloc (.cells #[.int .i64 0, .int .i64 0] 25) (Blk.new w 32 #[.int .i64 R.ch.dg, .int .i64 R.ch.tn, .string R.ch.nm, .slice B R.ch.zs.length c, .int .i64 R.ch.wd, .int .i64 R.ch.lf, .int .i64 R.ch.rt, .int .i64 R.ad, .int .i64 R.at_, .int .i64 R.bd, .int .i64 R.bt, .int .i64 R.cd, .int .i64 R.ct, .int .i64 R.dd, .int .i64 R.dt, .int .i64 R.ey, .int .i64 R.bo]))
  have HR := Lib.hid (Blk.new (w.alloc (.cells #[.int .i64 R.ch.dg, .int .i64 R.ch.tn, .string R.ch.nm, .slice B R.ch.zs.length c, .int .i64 R.ch.wd, .int .i64 R.ch.lf, .int .i64 R.ch.rt, .int .i64 R.ad, .int .i64 R.at_, .int .i64 R.bd, .int .i64 R.bt, .int .i64 R.cd, .int .i64 R.ct, .int .i64 R.dd, .int .i64 R.dt, .int .i64 R.ey, .int .i64 R.bo] 32)) 25 #[.int .i64 0, .int .i64 0])
  simp only [World.size_alloc] at HR
  have hlM := HM.out.lt
  clear hS
  go_enter Tryz.func66, Tryz.ntmps66
  go_wp2_with fail
  go_at_call 46; refine (l01Next_c X A zs _ (by omega) _ (zsr HS)).mono ?_; rintro e w1 ⟨x1, rfl, hx1, hy1, hd1⟩; (try rw [Int.max_eq_left (by omega)] at hy1); have hkb := hd1.kp; have hka := zka HK hkb; have hlS1 := HS.out.lt; (try replace HM := zb hka hkb HM); (try replace HR := zb hka hkb HR); replace HK := zt HK hka hkb; have hsz1 := hkb.size_; have hsy1 := hka.size_; (try simp only [World.size_alloc, World.size_drew, World.heap_drewN, World.size_setCell] at hsz1 hsy1); replace HS := Lib.hid hd1.src; clear hka hkb hd1 hlS1; have hlS1 := HS.out.lt
  have hlR := HR.out.lt
  by_cases q : x1 = 0
  · go_wp2_with fail
    go_at_call 89; refine (l02Draw_c X A zs _ (zsr HS)).mono ?_; rintro e w2 ⟨d2, t2, rfl, ho2, hd2⟩; clear ho2; have hkb := hd2.kp; have hka := zka HK hkb; have hlS2 := HS.out.lt; (try replace HM := zb hka hkb HM); (try replace HR := zb hka hkb HR); replace HK := zt HK hka hkb; have hsz2 := hkb.size_; have hsy2 := hka.size_; (try simp only [World.size_alloc, World.size_drew, World.heap_drewN, World.size_setCell] at hsz2 hsy2); replace HS := Lib.hid hd2.src; clear hka hkb hd2 hlS2; have hlS2 := HS.out.lt
    go_wp2_with (first | (refine wpList_store_part 25 _ _ _ 0 _ _ (Blk.kp (zk0 HK) (by first | omega | (simp; omega)) HR.out) rfl rfl rfl rfl (by rfl) (by kernel_rfl) (by simp [go_sem, Value.cells, Value.oneCell']) (by simp [go_sem, Value.cells]) ?_; intro wS hBS hkb; simp [go_sem, Value.cells, setL] at hBS; have hka := zka HK hkb; have hlSo := HS.out.lt; (try replace HM := zb hka hkb HM); (try replace HS := Lib.hid (Src.kpg2 HS.out (by repeat (with_reducible first | exact Below.refl _ _ | refine Bel.alloc ?_ _ | refine Below.drew ?_ | refine Bel.drewN ?_ _)) hkb (by first | omega | (simp; omega)))); replace HR := Lib.hid hBS; replace HK := Lib.hid (Kp.own hkb (by first | omega | (simp; omega)) (Kp.trans HK.out hka)); have hszS := hkb.size_; have hsyS := hka.size_; (try simp only [World.size_alloc, World.size_drew, World.heap_drewN, World.size_setCell] at hszS hsyS); clear hBS hka hkb hlSo; have hlSS := HS.out.lt))
    exact bodyPost_ret (results_blk HR.out Tryz.underlying25 (by kernel_rfl) rfl rfl) rfl ⟨d2, t2, rfl, by simp, HS.out, HK.out⟩
  · go_upto_region 3 with (fail)
    refine wp_region_held_drew (S := fun W => Blk W w.heap.size 32 #[.int .i64 R.ch.dg, .int .i64 R.ch.tn, .string R.ch.nm, .slice B R.ch.zs.length c, .int .i64 R.ch.wd, .int .i64 R.ch.lf, .int .i64 R.ch.rt, .int .i64 R.ad, .int .i64 R.at_, .int .i64 R.bd, .int .i64 R.bt, .int .i64 R.cd, .int .i64 R.ct, .int .i64 R.dd, .int .i64 R.dt, .int .i64 R.ey, .int .i64 R.bo] ∧ True) (by kernel_rfl) (⟨HM.out.drew, trivial⟩) (fun hHeld => ?_)
    replace HR := Lib.hid HR.out.drew
    replace HM := Lib.hid HM.out.drew
    replace HS := Lib.hid HS.out.drew
    replace HK := Lib.hid HK.out.drew
    have hsd : w1.drew.heap.size = w1.heap.size := rfl
    rw [← hsd] at hlR
    clear hsd
    generalize w1.drew = v3 at HR HM HS HK hHeld hlR ⊢
    refine wpAnyH_take (i := 0) (v := (.pointer (some ⟨w.heap.size, 7, none⟩))) rfl (by kernel_rfl) (by kernel_rfl) (by kernel_rfl) (fun _ _ _ h => h) (Or.inl ⟨by rfl, fun w _ => by simp [go_sem, execOp]⟩) hHeld ?_
    simp only [Act.put, List.getElem_toArray, List.getElem_cons_succ, List.getElem_cons_zero, List.setIfInBounds_toArray, List.set_cons_zero, List.set_cons_succ]
    refine wpAnyH_take (i := 1) (v := (.pointer (some ⟨w.heap.size, 7, none⟩))) rfl (by kernel_rfl) (by kernel_rfl) (by kernel_rfl) (fun _ _ _ h => h) (Or.inl ⟨by rfl, fun w _ => by simp [go_sem, execOp]⟩) hHeld ?_
    simp only [Act.put, List.getElem_toArray, List.getElem_cons_succ, List.getElem_cons_zero, List.setIfInBounds_toArray, List.set_cons_zero, List.set_cons_succ]
    refine wpAnyH_take (i := 2) (v := (.int .i64 R.ad)) rfl (by kernel_rfl) (by kernel_rfl) (by kernel_rfl) (fun _ _ _ h => h) (Or.inl ⟨by rfl, fun w' h => by have q0 := h.1.cell 7; simp [go_sem, execOp, q0]⟩) hHeld ?_
    simp only [Act.put, List.getElem_toArray, List.getElem_cons_succ, List.getElem_cons_zero, List.setIfInBounds_toArray, List.set_cons_zero, List.set_cons_succ]
    refine wpAnyH_take (i := 3) (v := (.pointer (some ⟨w.heap.size, 7, none⟩))) rfl (by kernel_rfl) (by kernel_rfl) (by kernel_rfl) (fun _ _ _ h => h) (Or.inl ⟨by rfl, fun w _ => by simp [go_sem, execOp]⟩) hHeld ?_
    simp only [Act.put, List.getElem_toArray, List.getElem_cons_succ, List.getElem_cons_zero, List.setIfInBounds_toArray, List.set_cons_zero, List.set_cons_succ]
    refine wpAnyH_take (i := 4) (v := (.pointer (some ⟨w.heap.size, 8, none⟩))) rfl (by kernel_rfl) (by kernel_rfl) (by kernel_rfl) (fun _ _ _ h => h) (Or.inl ⟨by rfl, fun w _ => by simp [go_sem, execOp]⟩) hHeld ?_
    simp only [Act.put, List.getElem_toArray, List.getElem_cons_succ, List.getElem_cons_zero, List.setIfInBounds_toArray, List.set_cons_zero, List.set_cons_succ]
    refine wpAnyH_take (i := 5) (v := (.int .i64 R.at_)) rfl (by kernel_rfl) (by kernel_rfl) (by kernel_rfl) (fun _ _ _ h => h) (Or.inl ⟨by rfl, fun w' h => by have q0 := h.1.cell 8; simp [go_sem, execOp, q0]⟩) hHeld ?_
    simp only [Act.put, List.getElem_toArray, List.getElem_cons_succ, List.getElem_cons_zero, List.setIfInBounds_toArray, List.set_cons_zero, List.set_cons_succ]
    refine wpAnyH_take (i := 6) (v := (.pointer (some ⟨X, 0, none⟩))) rfl (by kernel_rfl) (by kernel_rfl) (by kernel_rfl) (fun _ _ _ h => h) (Or.inl ⟨by rfl, fun w _ => by simp [go_sem, execOp]⟩) hHeld ?_
    simp only [Act.put, List.getElem_toArray, List.getElem_cons_succ, List.getElem_cons_zero, List.setIfInBounds_toArray, List.set_cons_zero, List.set_cons_succ]
    refine wpAnyH_ready (rs := [7]) (by kernel_rfl) (by simp) ?_
    refine AllReadyH.cons rfl (fun K hK => ?_) AllReadyH.nil
    go_simp
    go_at_call 46; refine (l01Next_c X A zs _ (by omega) _ (zsr HS)).mono ?_; rintro e w4 ⟨x4, rfl, hx4, hy4, hd4⟩; (try rw [Int.max_eq_left (by omega)] at hy4); have hkb := hd4.kp; have hka := zka HK hkb; have hlS4 := HS.out.lt; (try replace HM := zb hka hkb HM); (try replace HR := zb hka hkb HR); replace HK := zt HK hka hkb; have hsz4 := hkb.size_; have hsy4 := hka.size_; (try simp only [World.size_alloc, World.size_drew, World.heap_drewN, World.size_setCell] at hsz4 hsy4); replace HS := Lib.hid hd4.src; clear hka hkb hd4 hlS4; have hlS4 := HS.out.lt
    go_wp2_with fail
    refine hK.out _ _ (⟨HM.out, trivial⟩) (fun hHeld => ?_)
    clear hK K
    try simp only [Act.put, List.setIfInBounds_toArray, List.set_cons_zero, List.set_cons_succ]
    refine wpAnyH_take (i := 8) (v := (.int .i64 (IntKind.i64.wrap (R.at_ + x4)))) rfl (by kernel_rfl) (by kernel_rfl) (by kernel_rfl) (fun _ _ _ h => h) (Or.inl ⟨by rfl, fun w _ => by simp [go_sem, execOp]⟩) hHeld ?_
    simp only [Act.put, List.getElem_toArray, List.getElem_cons_succ, List.getElem_cons_zero, List.setIfInBounds_toArray, List.set_cons_zero, List.set_cons_succ]
    refine wpAnyH_take (i := 9) (v := (.agg #[.int .i64 R.ad, .int .i64 (IntKind.i64.wrap (R.at_ + x4))])) rfl (by kernel_rfl) (by kernel_rfl) (by kernel_rfl) (fun _ _ _ h => h) (Or.inl ⟨by rfl, fun w _ => by simp [go_sem, execOp]⟩) hHeld ?_
    simp only [Act.put, List.getElem_toArray, List.getElem_cons_succ, List.getElem_cons_zero, List.setIfInBounds_toArray, List.set_cons_zero, List.set_cons_succ]
    refine wpAnyH_ready (rs := [10]) (by kernel_rfl) (by simp) ?_
    refine AllReadyH.cons rfl (fun K hK => ?_) AllReadyH.nil
    refine step_store_part 25 _ _ _ 0 (.agg #[.int .i64 R.ad, .int .i64 (IntKind.i64.wrap (R.at_ + x4))]) #[.int .i64 R.ad, .int .i64 (IntKind.i64.wrap (R.at_ + x4))] (Blk.kp (zk0 HK) (by first | omega | (simp; omega)) HR.out) rfl rfl rfl rfl rfl (by rfl) (by kernel_rfl) (by simp [Value.oneCell']) (by simp) ?_; intro wS hBS hkb; simp only [setL, List.setIfInBounds_toArray, List.set_cons_zero, List.set_cons_succ] at hBS; have hka := zka HK hkb; have hlSo := HS.out.lt; (try replace HM := zb hka hkb HM); (try replace HS := Lib.hid (Src.kpg2 HS.out (by repeat (with_reducible first | exact Below.refl _ _ | refine Bel.alloc ?_ _ | refine Below.drew ?_ | refine Bel.drewN ?_ _)) hkb (by first | omega | (simp; omega)))); replace HR := Lib.hid hBS; replace HK := Lib.hid (Kp.own hkb (by first | omega | (simp; omega)) (Kp.trans HK.out hka)); have hszS := hkb.size_; have hsyS := hka.size_; (try simp only [World.size_alloc, World.size_drew, World.heap_drewN, World.size_setCell] at hszS hsyS); clear hBS hka hkb hlSo; have hlSS := HS.out.lt
    refine hK.out _ _ (⟨HM.out, trivial⟩) (fun hHeld => ?_)
    clear hK K
    try simp only [Act.put, List.setIfInBounds_toArray, List.set_cons_zero, List.set_cons_succ]
    refine wpAnyH_done (by kernel_rfl) ?_ _
    go_wp2
    exact bodyPost_ret (results_blk HR.out Tryz.underlying25 (by kernel_rfl) rfl rfl) rfl ⟨R.ad, IntKind.i64.wrap (R.at_ + x4), rfl, by simp, HS.out, HK.out⟩
/-- A release and a figure are drawn. -/
def WdQ (w : World) (e : Ending) (w' : World) : Prop := ∃ (R : Re) (g c : Nat) (ud ut : Int), e = .returned (.tuple #[.agg #[.int .i64 R.ch.dg, .int .i64 R.ch.tn, .string R.ch.nm, .slice (some ⟨g, 0, none⟩) R.ch.zs.length c, .int .i64 R.ch.wd, .int .i64 R.ch.lf, .int .i64 R.ch.rt, .int .i64 R.ad, .int .i64 R.at_, .int .i64 R.bd, .int .i64 R.bt, .int .i64 R.cd, .int .i64 R.ct, .int .i64 R.dd, .int .i64 R.dt, .int .i64 R.ey, .int .i64 R.bo], .agg #[.int .i64 ud, .int .i64 ut]]) ∧ R.ch.zs.length ≤ 27 ∧ R.ch.nm.size ≤ 27 ∧ Own w' w.heap.size 2 (.slice (some ⟨g, 0, none⟩) R.ch.zs.length c) R.ch.zs ∧ Below w.heap.size w w'
set_option maxRecDepth 20000 in
set_option maxHeartbeats 4000000 in
theorem DrawWidestRange_c (A : Option Addr) (c : Nat) (zs : List Int) (hz : zs.length ≤ 4096) (w : World) (hA : Byts w A zs) :
    Calls Tryz.prog 17 #[.slice A zs.length c] w (WdQ w) := by
  have HA := Lib.hid hA
  have HB := Lib.hid (Below.refl w.heap.size w)
  have HR1 := Lib.hid (by have h := Blk.new w 32 #[.int .i64 0, .int .i64 0, .string ⟨#[]⟩, .slice none 0 0, .int .i64 0, .int .i64 0, .int .i64 0, .int .i64 0, .int .i64 0, .int .i64 0, .int .i64 0, .int .i64 0, .int .i64 0, .int .i64 0, .int .i64 0, .int .i64 0, .int .i64 0]; (try simp only [World.size_alloc] at h); exact h)
  replace HB := Lib.hid (Bel.alloc HB.out (.cells #[.int .i64 0, .int .i64 0, .string ⟨#[]⟩, .slice none 0 0, .int .i64 0, .int .i64 0, .int .i64 0, .int .i64 0, .int .i64 0, .int .i64 0, .int .i64 0, .int .i64 0, .int .i64 0, .int .i64 0, .int .i64 0, .int .i64 0, .int .i64 0] 32))
  have HR2 := Lib.hid (by have h := Blk.new (w.alloc (.cells #[.int .i64 0, .int .i64 0, .string ⟨#[]⟩, .slice none 0 0, .int .i64 0, .int .i64 0, .int .i64 0, .int .i64 0, .int .i64 0, .int .i64 0, .int .i64 0, .int .i64 0, .int .i64 0, .int .i64 0, .int .i64 0, .int .i64 0, .int .i64 0] 32)) 25 #[.int .i64 0, .int .i64 0]; (try simp only [World.size_alloc] at h); exact h)
  replace HR1 := Lib.hid (Blk.alloc (.cells #[.int .i64 0, .int .i64 0] 25) HR1.out)
  replace HB := Lib.hid (Bel.alloc HB.out (.cells #[.int .i64 0, .int .i64 0] 25))
  clear hA
  go_enter Tryz.func17, Tryz.ntmps17
  go_wp2_with fail
  go_at_call 44; refine (l01From_c A c zs hz _ (Byts.step (by repeat (with_reducible first | exact Below.refl _ _ | refine Bel.alloc ?_ _)) HA.out)).mono ?_; rintro e w1 ⟨X, rfl, hX, hS, hb1⟩; replace HR1 := Lib.hid (Blk.step hb1 HR1.out); replace HR2 := Lib.hid (Blk.step hb1 HR2.out); have HS := Lib.hid hS; have HK := Lib.hid (Kp.below (X := X) (a := w) hb1 (by repeat (with_reducible first | exact Kp.refl _ _ | refine Kp.alloc _ ?_ | refine Kp.drew ?_ | refine Kp.drewN _ ?_))); have hlX := hS.lt; have hsz1 := hb1.size; (try simp only [World.size_alloc] at hX hsz1); clear hS hb1
  clear HB
  go_wp2_with fail
  go_at_call 45; refine (l27Draw_c X A zs _ (zsr HS)).mono ?_; rintro e w2 ⟨R2, g2, c2, rfl, hn2, hm2, hO2, hd2⟩; obtain ⟨hq2, hr2⟩ := World.ownsRow.lt hO2 g2 rfl; (try simp only [World.size_alloc] at hq2); have HO2 := Lib.hid hO2; clear hO2; have hkb := hd2.kp; have hka := zka HK hkb; have hlS2 := HS.out.lt; (try replace HR1 := zb hka hkb HR1); (try replace HR2 := zb hka hkb HR2); replace HK := zt HK hka hkb; have hsz2 := hkb.size_; have hsy2 := hka.size_; (try simp only [World.size_alloc, World.size_drew, World.heap_drewN, World.size_setCell] at hsz2 hsy2); replace HS := Lib.hid hd2.src; clear hka hkb hd2 hlS2; have hlS2 := HS.out.lt
  have HM := Lib.hid (Blk.new w2 32 #[.int .i64 R2.ch.dg, .int .i64 R2.ch.tn, .string R2.ch.nm, .slice (some ⟨g2, 0, none⟩) R2.ch.zs.length c2, .int .i64 R2.ch.wd, .int .i64 R2.ch.lf, .int .i64 R2.ch.rt, .int .i64 R2.ad, .int .i64 R2.at_, .int .i64 R2.bd, .int .i64 R2.bt, .int .i64 R2.cd, .int .i64 R2.ct, .int .i64 R2.dd, .int .i64 R2.dt, .int .i64 R2.ey, .int .i64 R2.bo])
  replace HR1 := Lib.hid (Blk.alloc (.cells #[.int .i64 R2.ch.dg, .int .i64 R2.ch.tn, .string R2.ch.nm, .slice (some ⟨g2, 0, none⟩) R2.ch.zs.length c2, .int .i64 R2.ch.wd, .int .i64 R2.ch.lf, .int .i64 R2.ch.rt, .int .i64 R2.ad, .int .i64 R2.at_, .int .i64 R2.bd, .int .i64 R2.bt, .int .i64 R2.cd, .int .i64 R2.ct, .int .i64 R2.dd, .int .i64 R2.dt, .int .i64 R2.ey, .int .i64 R2.bo] 32) HR1.out)
  replace HR2 := Lib.hid (Blk.alloc (.cells #[.int .i64 R2.ch.dg, .int .i64 R2.ch.tn, .string R2.ch.nm, .slice (some ⟨g2, 0, none⟩) R2.ch.zs.length c2, .int .i64 R2.ch.wd, .int .i64 R2.ch.lf, .int .i64 R2.ch.rt, .int .i64 R2.ad, .int .i64 R2.at_, .int .i64 R2.bd, .int .i64 R2.bt, .int .i64 R2.cd, .int .i64 R2.ct, .int .i64 R2.dd, .int .i64 R2.dt, .int .i64 R2.ey, .int .i64 R2.bo] 32) HR2.out)
  replace HO2 := Lib.hid (Own.alloc (.cells #[.int .i64 R2.ch.dg, .int .i64 R2.ch.tn, .string R2.ch.nm, .slice (some ⟨g2, 0, none⟩) R2.ch.zs.length c2, .int .i64 R2.ch.wd, .int .i64 R2.ch.lf, .int .i64 R2.ch.rt, .int .i64 R2.ad, .int .i64 R2.at_, .int .i64 R2.bd, .int .i64 R2.bt, .int .i64 R2.cd, .int .i64 R2.ct, .int .i64 R2.dd, .int .i64 R2.dt, .int .i64 R2.ey, .int .i64 R2.bo] 32) HO2.out)
  replace HS := Lib.hid (Src.alloc (.cells #[.int .i64 R2.ch.dg, .int .i64 R2.ch.tn, .string R2.ch.nm, .slice (some ⟨g2, 0, none⟩) R2.ch.zs.length c2, .int .i64 R2.ch.wd, .int .i64 R2.ch.lf, .int .i64 R2.ch.rt, .int .i64 R2.ad, .int .i64 R2.at_, .int .i64 R2.bd, .int .i64 R2.bt, .int .i64 R2.cd, .int .i64 R2.ct, .int .i64 R2.dd, .int .i64 R2.dt, .int .i64 R2.ey, .int .i64 R2.bo] 32) HS.out)
  replace HK := Lib.hid (Kp.alloc (.cells #[.int .i64 R2.ch.dg, .int .i64 R2.ch.tn, .string R2.ch.nm, .slice (some ⟨g2, 0, none⟩) R2.ch.zs.length c2, .int .i64 R2.ch.wd, .int .i64 R2.ch.lf, .int .i64 R2.ch.rt, .int .i64 R2.ad, .int .i64 R2.at_, .int .i64 R2.bd, .int .i64 R2.bt, .int .i64 R2.cd, .int .i64 R2.ct, .int .i64 R2.dd, .int .i64 R2.dt, .int .i64 R2.ey, .int .i64 R2.bo] 32) HK.out)
  have hlZ := HM.out.lt
  go_upto_region 3 with (fail)
  refine wp_region_held_drew (S := fun W => Blk W w2.heap.size 32 #[.int .i64 R2.ch.dg, .int .i64 R2.ch.tn, .string R2.ch.nm, .slice (some ⟨g2, 0, none⟩) R2.ch.zs.length c2, .int .i64 R2.ch.wd, .int .i64 R2.ch.lf, .int .i64 R2.ch.rt, .int .i64 R2.ad, .int .i64 R2.at_, .int .i64 R2.bd, .int .i64 R2.bt, .int .i64 R2.cd, .int .i64 R2.ct, .int .i64 R2.dd, .int .i64 R2.dt, .int .i64 R2.ey, .int .i64 R2.bo] ∧ True) (by kernel_rfl) (⟨HM.out.drew, trivial⟩) (fun hHeld => ?_)
  replace HR1 := Lib.hid HR1.out.drew
  replace HR2 := Lib.hid HR2.out.drew
  replace HM := Lib.hid HM.out.drew
  replace HO2 := Lib.hid HO2.out.drew
  replace HS := Lib.hid HS.out.drew
  replace HK := Lib.hid HK.out.drew
  have hsd : (w2.alloc (.cells #[.int .i64 R2.ch.dg, .int .i64 R2.ch.tn, .string R2.ch.nm, .slice (some ⟨g2, 0, none⟩) R2.ch.zs.length c2, .int .i64 R2.ch.wd, .int .i64 R2.ch.lf, .int .i64 R2.ch.rt, .int .i64 R2.ad, .int .i64 R2.at_, .int .i64 R2.bd, .int .i64 R2.bt, .int .i64 R2.cd, .int .i64 R2.ct, .int .i64 R2.dd, .int .i64 R2.dt, .int .i64 R2.ey, .int .i64 R2.bo] 32)).drew.heap.size = (w2.alloc (.cells #[.int .i64 R2.ch.dg, .int .i64 R2.ch.tn, .string R2.ch.nm, .slice (some ⟨g2, 0, none⟩) R2.ch.zs.length c2, .int .i64 R2.ch.wd, .int .i64 R2.ch.lf, .int .i64 R2.ch.rt, .int .i64 R2.ad, .int .i64 R2.at_, .int .i64 R2.bd, .int .i64 R2.bt, .int .i64 R2.cd, .int .i64 R2.ct, .int .i64 R2.dd, .int .i64 R2.dt, .int .i64 R2.ey, .int .i64 R2.bo] 32)).heap.size := rfl
  rw [← hsd] at hlZ
  clear hsd
  generalize (w2.alloc (.cells #[.int .i64 R2.ch.dg, .int .i64 R2.ch.tn, .string R2.ch.nm, .slice (some ⟨g2, 0, none⟩) R2.ch.zs.length c2, .int .i64 R2.ch.wd, .int .i64 R2.ch.lf, .int .i64 R2.ch.rt, .int .i64 R2.ad, .int .i64 R2.at_, .int .i64 R2.bd, .int .i64 R2.bt, .int .i64 R2.cd, .int .i64 R2.ct, .int .i64 R2.dd, .int .i64 R2.dt, .int .i64 R2.ey, .int .i64 R2.bo] 32)).drew = v3 at HR1 HR2 HM HO2 HS HK hHeld hlZ ⊢
  refine wpAnyH_take (i := 0) (v := .agg #[.int .i64 R2.ch.dg, .int .i64 R2.ch.tn, .string R2.ch.nm, .slice (some ⟨g2, 0, none⟩) R2.ch.zs.length c2, .int .i64 R2.ch.wd, .int .i64 R2.ch.lf, .int .i64 R2.ch.rt, .int .i64 R2.ad, .int .i64 R2.at_, .int .i64 R2.bd, .int .i64 R2.bt, .int .i64 R2.cd, .int .i64 R2.ct, .int .i64 R2.dd, .int .i64 R2.dt, .int .i64 R2.ey, .int .i64 R2.bo]) rfl (by kernel_rfl) (by kernel_rfl) (by kernel_rfl) (fun _ _ _ h => h) (yieldsIf_load_blk 32 _ (w2.heap.size) (fun _ h => h.1) Tryz.underlying32 (by kernel_rfl) (by rfl) rfl rfl) hHeld ?_
  simp only [Act.put, List.getElem_toArray, List.getElem_cons_succ, List.getElem_cons_zero, List.setIfInBounds_toArray, List.set_cons_zero, List.set_cons_succ]
  refine wpAnyH_take (i := 1) (v := (.pointer (some ⟨X, 0, none⟩))) rfl (by kernel_rfl) (by kernel_rfl) (by kernel_rfl) (fun _ _ _ h => h) (Or.inl ⟨by rfl, fun w _ => by simp [go_sem, execOp]⟩) hHeld ?_
  simp only [Act.put, List.getElem_toArray, List.getElem_cons_succ, List.getElem_cons_zero, List.setIfInBounds_toArray, List.set_cons_zero, List.set_cons_succ]
  refine wpAnyH_take (i := 2) (v := .agg #[.int .i64 R2.ch.dg, .int .i64 R2.ch.tn, .string R2.ch.nm, .slice (some ⟨g2, 0, none⟩) R2.ch.zs.length c2, .int .i64 R2.ch.wd, .int .i64 R2.ch.lf, .int .i64 R2.ch.rt, .int .i64 R2.ad, .int .i64 R2.at_, .int .i64 R2.bd, .int .i64 R2.bt, .int .i64 R2.cd, .int .i64 R2.ct, .int .i64 R2.dd, .int .i64 R2.dt, .int .i64 R2.ey, .int .i64 R2.bo]) rfl (by kernel_rfl) (by kernel_rfl) (by kernel_rfl) (fun _ _ _ h => h) (yieldsIf_load_blk 32 _ (w2.heap.size) (fun _ h => h.1) Tryz.underlying32 (by kernel_rfl) (by rfl) rfl rfl) hHeld ?_
  simp only [Act.put, List.getElem_toArray, List.getElem_cons_succ, List.getElem_cons_zero, List.setIfInBounds_toArray, List.set_cons_zero, List.set_cons_succ]
  refine wpAnyH_ready (rs := [3]) (by kernel_rfl) (by simp) ?_
  refine AllReadyH.cons rfl (fun K hK => ?_) AllReadyH.nil
  go_simp
  go_at_call 66; refine (l27End_c X A zs R2 (some ⟨g2, 0, none⟩) c2 _ (zsr HS)).mono ?_; rintro e w4 ⟨d4, t4, rfl, ho4, hd4⟩; clear ho4; have hkb := hd4.kp; have hka := zka HK hkb; have hlS4 := HS.out.lt; (try replace HR1 := zb hka hkb HR1); (try replace HR2 := zb hka hkb HR2); (try replace HM := zb hka hkb HM); (try replace HO2 := zo hka hkb HO2); replace HK := zt HK hka hkb; have hsz4 := hkb.size_; have hsy4 := hka.size_; (try simp only [World.size_alloc, World.size_drew, World.heap_drewN, World.size_setCell] at hsz4 hsy4); replace HS := Lib.hid hd4.src; clear hka hkb hd4 hlS4; have hlS4 := HS.out.lt
  go_wp2_with fail
  refine hK.out _ _ (⟨HM.out, trivial⟩) (fun hHeld => ?_)
  clear hK K
  try simp only [Act.put, List.setIfInBounds_toArray, List.set_cons_zero, List.set_cons_succ]
  refine wpAnyH_ready (rs := [4]) (by kernel_rfl) (by simp) ?_
  refine AllReadyH.cons rfl (fun K hK => ?_) AllReadyH.nil
  refine step_store_part 32 _ _ _ 0 (.agg #[.int .i64 R2.ch.dg, .int .i64 R2.ch.tn, .string R2.ch.nm, .slice (some ⟨g2, 0, none⟩) R2.ch.zs.length c2, .int .i64 R2.ch.wd, .int .i64 R2.ch.lf, .int .i64 R2.ch.rt, .int .i64 R2.ad, .int .i64 R2.at_, .int .i64 R2.bd, .int .i64 R2.bt, .int .i64 R2.cd, .int .i64 R2.ct, .int .i64 R2.dd, .int .i64 R2.dt, .int .i64 R2.ey, .int .i64 R2.bo]) #[.int .i64 R2.ch.dg, .int .i64 R2.ch.tn, .string R2.ch.nm, .slice (some ⟨g2, 0, none⟩) R2.ch.zs.length c2, .int .i64 R2.ch.wd, .int .i64 R2.ch.lf, .int .i64 R2.ch.rt, .int .i64 R2.ad, .int .i64 R2.at_, .int .i64 R2.bd, .int .i64 R2.bt, .int .i64 R2.cd, .int .i64 R2.ct, .int .i64 R2.dd, .int .i64 R2.dt, .int .i64 R2.ey, .int .i64 R2.bo] (Blk.kp (zk0 HK) (by first | omega | (simp; omega)) HR1.out) rfl rfl rfl rfl rfl (by rfl) (by kernel_rfl) (by simp [Value.oneCell']) (by simp) ?_; intro wS hBS hkb; simp only [setL, List.setIfInBounds_toArray, List.set_cons_zero, List.set_cons_succ] at hBS; have hka := zka HK hkb; have hlSo := HS.out.lt; (try replace HM := zb hka hkb HM); (try replace HR2 := zb hka hkb HR2); (try replace HO2 := zo hka hkb HO2); (try replace HS := Lib.hid (Src.kpg2 HS.out (by repeat (with_reducible first | exact Below.refl _ _ | refine Bel.alloc ?_ _ | refine Below.drew ?_ | refine Bel.drewN ?_ _)) hkb (by first | omega | (simp; omega)))); replace HR1 := Lib.hid hBS; replace HK := Lib.hid (Kp.own hkb (by first | omega | (simp; omega)) (Kp.trans HK.out hka)); have hszS := hkb.size_; have hsyS := hka.size_; (try simp only [World.size_alloc, World.size_drew, World.heap_drewN, World.size_setCell] at hszS hsyS); clear hBS hka hkb hlSo; have hlSS := HS.out.lt
  refine hK.out _ _ (⟨HM.out, trivial⟩) (fun hHeld => ?_)
  clear hK K
  try simp only [Act.put, List.setIfInBounds_toArray, List.set_cons_zero, List.set_cons_succ]
  refine wpAnyH_ready (rs := [5]) (by kernel_rfl) (by simp) ?_
  refine AllReadyH.cons rfl (fun K hK => ?_) AllReadyH.nil
  refine step_store_part 25 _ _ _ 0 (.agg #[.int .i64 d4, .int .i64 t4]) #[.int .i64 d4, .int .i64 t4] (Blk.kp (zk0 HK) (by first | omega | (simp; omega)) HR2.out) rfl rfl rfl rfl rfl (by rfl) (by kernel_rfl) (by simp [Value.oneCell']) (by simp) ?_; intro wS hBS hkb; simp only [setL, List.setIfInBounds_toArray, List.set_cons_zero, List.set_cons_succ] at hBS; have hka := zka HK hkb; have hlSo := HS.out.lt; (try replace HM := zb hka hkb HM); (try replace HR1 := zb hka hkb HR1); (try replace HO2 := zo hka hkb HO2); (try replace HS := Lib.hid (Src.kpg2 HS.out (by repeat (with_reducible first | exact Below.refl _ _ | refine Bel.alloc ?_ _ | refine Below.drew ?_ | refine Bel.drewN ?_ _)) hkb (by first | omega | (simp; omega)))); replace HR2 := Lib.hid hBS; replace HK := Lib.hid (Kp.own hkb (by first | omega | (simp; omega)) (Kp.trans HK.out hka)); have hszS := hkb.size_; have hsyS := hka.size_; (try simp only [World.size_alloc, World.size_drew, World.heap_drewN, World.size_setCell] at hszS hsyS); clear hBS hka hkb hlSo; have hlSS := HS.out.lt
  refine hK.out _ _ (⟨HM.out, trivial⟩) (fun hHeld => ?_)
  clear hK K
  try simp only [Act.put, List.setIfInBounds_toArray, List.set_cons_zero, List.set_cons_succ]
  refine wpAnyH_done (by kernel_rfl) ?_ _
  go_wp2
  exact bodyPost_ret (results_2 rfl (resF_cell HR1.out Tryz.underlying32 (by kernel_rfl) rfl) (resF_cell HR2.out Tryz.underlying25 (by kernel_rfl) rfl)) rfl ⟨R2, g2, c2, d4, t4, rfl, by omega, by omega, Own.ge_mono HO2.out (by omega), Kp.toBel HK.out (by omega)⟩
end Go.Proofs.YtpmcgicopogbhaaGreat
