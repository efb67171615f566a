/- Draws of chapter 26, as the statement FnModuli takes them. Conditions: as stated at each contract. -/
import Derived.Test.YtpmcgicopogbhaaGreatProg
import Derived.Test.YtpmcgicopogbhaaGreatBase
import Derived.Test.YtpmcgicopogbhaaGreatZz
import Derived.Test.YtpmcgicopogbhaaGreatRw
import Derived.Test.YtpmcgicopogbhaaGreatRg
import Derived.Test.YtpmcgicopogbhaaGreatL01
import Derived.Test.YtpmcgicopogbhaaGreatCp
import Derived.Test.YtpmcgicopogbhaaGreatCm
import Derived.Test.YtpmcgicopogbhaaGreatL18
import Derived.Test.YtpmcgicopogbhaaGreatD00
import Derived.Test.YtpmcgicopogbhaaGreatD01
import Derived.Test.YtpmcgicopogbhaaGreatD02
import Derived.Test.YtpmcgicopogbhaaGreatD18
import Derived.Test.YtpmcgicopogbhaaGreatD23
import Derived.Test.YtpmcgicopogbhaaGreatD26
import Derived.WalkKit
import Derived.WalkSpells
import Derived.WalkLawsBesides
import Derived.Lib.Hide
import Derived.Deep.QuietTactic
import Derived.BigQuiet
import Derived.Deep.Draws
import Derived.Deep.RegionHeld3
import Derived.Deep.Cut
namespace Go.Proofs.YtpmcgicopogbhaaGreat
open Go.RowKit
set_option linter.unusedVariables false
set_option linter.unusedSimpArgs false
theorem own_ne {v : Value} {B g : Nat} (h : ∀ b, v.ownBlock = some b → b < B) (hg : B ≤ g) : v.ownBlock = none ∨ v.ownBlock ≠ some g := by
  rcases hv : v.ownBlock with _ | b
  · exact .inl rfl
  · refine .inr fun h2 => ?_
    injection h2 with h2
    have := h b hv
    omega
set_option maxRecDepth 20000 in
set_option maxHeartbeats 8000000 in
theorem DrawWithModuli_c (A : Option Addr) (c : Nat) (zs : List Int) (hz : zs.length ≤ 4096) (w : World) (hA : Byts w A zs) :
    Calls Tryz.prog 29 #[.slice A zs.length c] w fun e w' => ∃ (C : Ch) (g c : Nat) (x y : Int), e = .returned (.tuple #[.agg #[.int .i64 C.dg, .int .i64 C.tn, .string C.nm, .slice (some ⟨g, 0, none⟩) C.zs.length c, .int .i64 C.wd, .int .i64 C.lf, .int .i64 C.rt], .int .i64 x, .int .i64 y]) ∧ C.zs.length ≤ 27 ∧ C.nm.size ≤ 27 ∧ Own w' w.heap.size 2 (.slice (some ⟨g, 0, none⟩) C.zs.length c) C.zs ∧ Below w.heap.size w w' := by
  have HA := Lib.hid hA
  have HB := Lib.hid (Below.refl w.heap.size w)
  have HR1 := Lib.hid (by have h := Blk.new w 30 #[.int .i64 0, .int .i64 0, .string ⟨#[]⟩, .slice none 0 0, .int .i64 0, .int .i64 0, .int .i64 0]; (try simp only [World.size_alloc] at h); exact h)
  replace HB := Lib.hid (Bel.alloc HB.out (.cells #[.int .i64 0, .int .i64 0, .string ⟨#[]⟩, .slice none 0 0, .int .i64 0, .int .i64 0, .int .i64 0] 30))
  clear hA
  go_enter Tryz.func29, Tryz.ntmps29
  go_wp2_with fail
  go_at_call 44; refine (l01From_c A c zs hz _ (Byts.step (by repeat (with_reducible first | exact Below.refl _ _ | refine Bel.alloc ?_ _)) HA.out)).mono ?_; rintro e w1 ⟨X, rfl, hX, hS, hb1⟩; replace HR1 := Lib.hid (Blk.step hb1 HR1.out); have HS := Lib.hid hS; have HK := Lib.hid (Kp.below (X := X) (a := w) hb1 (by repeat (with_reducible first | exact Kp.refl _ _ | refine Kp.alloc _ ?_ | refine Kp.drew ?_ | refine Kp.drewN _ ?_))); have hlX := hS.lt; have hsz1 := hb1.size; (try simp only [World.size_alloc] at hX hsz1); clear hS hb1
  clear HB
  go_wp2_with fail
  go_at_call 51; refine (l23Draw_c X A zs _ (zsr HS)).mono ?_; rintro e w2 ⟨C2, g2, c2, rfl, ho2, hn2, hm2, hO2, hd2⟩; obtain ⟨hq2, hr2⟩ := World.ownsRow.lt hO2 g2 rfl; (try simp only [World.size_alloc] at hq2); have HO2 := Lib.hid hO2; clear hO2 ho2; have hkb := hd2.kp; have hka := zka HK hkb; have hlS2 := HS.out.lt; (try replace HR1 := zb hka hkb HR1); replace HK := zt HK hka hkb; have hsz2 := hkb.size_; have hsy2 := hka.size_; (try simp only [World.size_alloc, World.size_drew, World.heap_drewN, World.size_setCell] at hsz2 hsy2); replace HS := Lib.hid hd2.src; clear hka hkb hd2 hlS2; have hlS2 := HS.out.lt
  have HM := Lib.hid (Blk.new w2 30 #[.int .i64 C2.dg, .int .i64 C2.tn, .string C2.nm, .slice (some ⟨g2, 0, none⟩) C2.zs.length c2, .int .i64 C2.wd, .int .i64 C2.lf, .int .i64 C2.rt])
  replace HR1 := Lib.hid (Blk.alloc (.cells #[.int .i64 C2.dg, .int .i64 C2.tn, .string C2.nm, .slice (some ⟨g2, 0, none⟩) C2.zs.length c2, .int .i64 C2.wd, .int .i64 C2.lf, .int .i64 C2.rt] 30) HR1.out)
  replace HO2 := Lib.hid (Own.alloc (.cells #[.int .i64 C2.dg, .int .i64 C2.tn, .string C2.nm, .slice (some ⟨g2, 0, none⟩) C2.zs.length c2, .int .i64 C2.wd, .int .i64 C2.lf, .int .i64 C2.rt] 30) HO2.out)
  replace HS := Lib.hid (Src.alloc (.cells #[.int .i64 C2.dg, .int .i64 C2.tn, .string C2.nm, .slice (some ⟨g2, 0, none⟩) C2.zs.length c2, .int .i64 C2.wd, .int .i64 C2.lf, .int .i64 C2.rt] 30) HS.out)
  replace HK := Lib.hid (Kp.alloc (.cells #[.int .i64 C2.dg, .int .i64 C2.tn, .string C2.nm, .slice (some ⟨g2, 0, none⟩) C2.zs.length c2, .int .i64 C2.wd, .int .i64 C2.lf, .int .i64 C2.rt] 30) HK.out)
  have hlZ := HM.out.lt
  go_upto_region 3 with (fail)
  refine wp_region_held_drew (S := fun W => Blk W w2.heap.size 30 #[.int .i64 C2.dg, .int .i64 C2.tn, .string C2.nm, .slice (some ⟨g2, 0, none⟩) C2.zs.length c2, .int .i64 C2.wd, .int .i64 C2.lf, .int .i64 C2.rt] ∧ True) (by kernel_rfl) (⟨HM.out.drew, trivial⟩) (fun hHeld => ?_)
  replace HR1 := Lib.hid HR1.out.drew
  replace HM := Lib.hid HM.out.drew
  replace HO2 := Lib.hid HO2.out.drew
  replace HS := Lib.hid HS.out.drew
  replace HK := Lib.hid HK.out.drew
  have hsd : (w2.alloc (.cells #[.int .i64 C2.dg, .int .i64 C2.tn, .string C2.nm, .slice (some ⟨g2, 0, none⟩) C2.zs.length c2, .int .i64 C2.wd, .int .i64 C2.lf, .int .i64 C2.rt] 30)).drew.heap.size = (w2.alloc (.cells #[.int .i64 C2.dg, .int .i64 C2.tn, .string C2.nm, .slice (some ⟨g2, 0, none⟩) C2.zs.length c2, .int .i64 C2.wd, .int .i64 C2.lf, .int .i64 C2.rt] 30)).heap.size := rfl
  rw [← hsd] at hlZ
  clear hsd
  generalize (w2.alloc (.cells #[.int .i64 C2.dg, .int .i64 C2.tn, .string C2.nm, .slice (some ⟨g2, 0, none⟩) C2.zs.length c2, .int .i64 C2.wd, .int .i64 C2.lf, .int .i64 C2.rt] 30)).drew = v3 at HR1 HM HO2 HS HK hHeld hlZ ⊢
  refine wpAnyH_take (i := 0) (v := .agg #[.int .i64 C2.dg, .int .i64 C2.tn, .string C2.nm, .slice (some ⟨g2, 0, none⟩) C2.zs.length c2, .int .i64 C2.wd, .int .i64 C2.lf, .int .i64 C2.rt]) rfl (by kernel_rfl) (by kernel_rfl) (by kernel_rfl) (fun _ _ _ h => h) (yieldsIf_load_blk 30 _ (w2.heap.size) (fun _ h => h.1) Tryz.underlying30 (by kernel_rfl) (by rfl) rfl rfl) hHeld ?_
  simp only [Act.put, List.getElem_toArray, List.getElem_cons_succ, List.getElem_cons_zero, List.setIfInBounds_toArray, List.set_cons_zero, List.set_cons_succ]
  refine wpAnyH_take (i := 1) (v := (.pointer (some ⟨X, 0, none⟩))) rfl (by kernel_rfl) (by kernel_rfl) (by kernel_rfl) (fun _ _ _ h => h) (Or.inl ⟨by rfl, fun w _ => by simp [go_sem, execOp]⟩) hHeld ?_
  simp only [Act.put, List.getElem_toArray, List.getElem_cons_succ, List.getElem_cons_zero, List.setIfInBounds_toArray, List.set_cons_zero, List.set_cons_succ]
  refine wpAnyH_take (i := 2) (v := (.pointer (some ⟨X, 0, none⟩))) rfl (by kernel_rfl) (by kernel_rfl) (by kernel_rfl) (fun _ _ _ h => h) (Or.inl ⟨by rfl, fun w _ => by simp [go_sem, execOp]⟩) hHeld ?_
  simp only [Act.put, List.getElem_toArray, List.getElem_cons_succ, List.getElem_cons_zero, List.setIfInBounds_toArray, List.set_cons_zero, List.set_cons_succ]
  refine wpAnyH_take (i := 7) (v := (.pointer (some ⟨X, 0, none⟩))) rfl (by kernel_rfl) (by kernel_rfl) (by kernel_rfl) (fun _ _ _ h => h) (Or.inl ⟨by rfl, fun w _ => by simp [go_sem, execOp]⟩) hHeld ?_
  simp only [Act.put, List.getElem_toArray, List.getElem_cons_succ, List.getElem_cons_zero, List.setIfInBounds_toArray, List.set_cons_zero, List.set_cons_succ]
  refine wpAnyH_take (i := 8) (v := (.pointer (some ⟨X, 0, none⟩))) rfl (by kernel_rfl) (by kernel_rfl) (by kernel_rfl) (fun _ _ _ h => h) (Or.inl ⟨by rfl, fun w _ => by simp [go_sem, execOp]⟩) hHeld ?_
  simp only [Act.put, List.getElem_toArray, List.getElem_cons_succ, List.getElem_cons_zero, List.setIfInBounds_toArray, List.set_cons_zero, List.set_cons_succ]
  refine wpAnyH_ready (rs := [3]) (by kernel_rfl) (by simp) ?_
  refine AllReadyH.cons rfl (fun K hK => ?_) AllReadyH.nil
  go_simp
  go_at_call 46; refine (l01Next_c X A zs _ (by omega) _ (zsr HS)).mono ?_; rintro e w4 ⟨x4, rfl, hx4, hy4, hd4⟩; (try rw [Int.max_eq_left (by omega)] at hy4); have hkb := hd4.kp; have hka := zka HK hkb; have hlS4 := HS.out.lt; (try replace HR1 := zb hka hkb HR1); (try replace HM := zb hka hkb HM); (try replace HO2 := zo hka hkb HO2); replace HK := zt HK hka hkb; have hsz4 := hkb.size_; have hsy4 := hka.size_; (try simp only [World.size_alloc, World.size_drew, World.heap_drewN, World.size_setCell] at hsz4 hsy4); replace HS := Lib.hid hd4.src; clear hka hkb hd4 hlS4; have hlS4 := HS.out.lt
  go_wp2_with fail
  refine hK.out _ _ (⟨HM.out, trivial⟩) (fun hHeld => ?_)
  clear hK K
  try simp only [Act.put, List.setIfInBounds_toArray, List.set_cons_zero, List.set_cons_succ]
  refine wpAnyH_take (i := 4) (v := (.int .i64 (IntKind.i64.wrap (100 + x4)))) rfl (by kernel_rfl) (by kernel_rfl) (by kernel_rfl) (fun _ _ _ h => h) (Or.inl ⟨by rfl, fun w _ => by simp [go_sem, execOp]⟩) hHeld ?_
  simp only [Act.put, List.getElem_toArray, List.getElem_cons_succ, List.getElem_cons_zero, List.setIfInBounds_toArray, List.set_cons_zero, List.set_cons_succ]
  refine wpAnyH_ready (rs := [5]) (by kernel_rfl) (by simp) ?_
  refine AllReadyH.cons rfl (fun K hK => ?_) (AllReadyH.nil)
  go_simp
  have HN := Lib.hid (Blk.new w4 2 #[.int .i64 100, .int .i64 99, .int .i64 20000, .int .i64 20001, .int .i64 (IntKind.i64.wrap (100 + x4))])
  replace HR1 := Lib.hid (Blk.alloc (.cells #[.int .i64 100, .int .i64 99, .int .i64 20000, .int .i64 20001, .int .i64 (IntKind.i64.wrap (100 + x4))] 2) HR1.out)
  replace HM := Lib.hid (Blk.alloc (.cells #[.int .i64 100, .int .i64 99, .int .i64 20000, .int .i64 20001, .int .i64 (IntKind.i64.wrap (100 + x4))] 2) HM.out)
  replace HO2 := Lib.hid (Own.alloc (.cells #[.int .i64 100, .int .i64 99, .int .i64 20000, .int .i64 20001, .int .i64 (IntKind.i64.wrap (100 + x4))] 2) HO2.out)
  replace HS := Lib.hid (Src.alloc (.cells #[.int .i64 100, .int .i64 99, .int .i64 20000, .int .i64 20001, .int .i64 (IntKind.i64.wrap (100 + x4))] 2) HS.out)
  replace HK := Lib.hid (Kp.alloc (.cells #[.int .i64 100, .int .i64 99, .int .i64 20000, .int .i64 20001, .int .i64 (IntKind.i64.wrap (100 + x4))] 2) HK.out)
  refine hK.out _ _ (⟨HM.out, trivial⟩) (fun hHeld => ?_)
  clear hK K
  try simp only [Act.put, List.setIfInBounds_toArray, List.set_cons_zero, List.set_cons_succ]
  refine wpAnyH_ready (rs := [6]) (by kernel_rfl) (by simp) ?_
  refine AllReadyH.cons rfl (fun K hK => ?_) AllReadyH.nil
  go_simp
  go_at_call 79; refine (l01Pick_c X A zs _ _ 2 _ _ (zsr HS) (by repeat (first | exact Blk.new _ _ _ | refine Blk.alloc _ ?_)) (by rfl) (by omega) (by omega) (by simp [isI]) (Nat.ne_of_gt (by have := HS.out.lt; first | omega | (simp; omega)))).mono ?_; rintro e w5 ⟨x5, i5, hi5, hp5, rfl, hd5⟩; have HP5 := Lib.hid hp5; clear hp5; have hkb := hd5.kp; have hka := zka HK hkb; have hlS5 := HS.out.lt; (try replace HR1 := zb hka hkb HR1); (try replace HM := zb hka hkb HM); (try replace HO2 := zo hka hkb HO2); replace HK := zt HK hka hkb; have hsz5 := hkb.size_; have hsy5 := hka.size_; (try simp only [World.size_alloc, World.size_drew, World.heap_drewN, World.size_setCell] at hsz5 hsy5); replace HS := Lib.hid hd5.src; clear hka hkb hd5 hlS5; have hlS5 := HS.out.lt
  go_wp2_with fail
  refine hK.out _ _ (⟨HM.out, trivial⟩) (fun hHeld => ?_)
  clear hK K
  try simp only [Act.put, List.setIfInBounds_toArray, List.set_cons_zero, List.set_cons_succ]
  refine wpAnyH_ready (rs := [9]) (by kernel_rfl) (by simp) ?_
  refine AllReadyH.cons rfl (fun K hK => ?_) AllReadyH.nil
  go_simp
  go_at_call 46; refine (l01Next_c X A zs _ (by omega) _ (zsr HS)).mono ?_; rintro e w6 ⟨x6, rfl, hx6, hy6, hd6⟩; (try rw [Int.max_eq_left (by omega)] at hy6); have hkb := hd6.kp; have hka := zka HK hkb; have hlS6 := HS.out.lt; (try replace HR1 := zb hka hkb HR1); (try replace HM := zb hka hkb HM); (try replace HO2 := zo hka hkb HO2); replace HK := zt HK hka hkb; have hsz6 := hkb.size_; have hsy6 := hka.size_; (try simp only [World.size_alloc, World.size_drew, World.heap_drewN, World.size_setCell] at hsz6 hsy6); replace HS := Lib.hid hd6.src; clear hka hkb hd6 hlS6; have hlS6 := HS.out.lt
  go_wp2_with fail
  refine hK.out _ _ (⟨HM.out, trivial⟩) (fun hHeld => ?_)
  clear hK K
  try simp only [Act.put, List.setIfInBounds_toArray, List.set_cons_zero, List.set_cons_succ]
  refine wpAnyH_take (i := 10) (v := (.int .i64 (IntKind.i64.wrap (100 + x6)))) rfl (by kernel_rfl) (by kernel_rfl) (by kernel_rfl) (fun _ _ _ h => h) (Or.inl ⟨by rfl, fun w _ => by simp [go_sem, execOp]⟩) hHeld ?_
  simp only [Act.put, List.getElem_toArray, List.getElem_cons_succ, List.getElem_cons_zero, List.setIfInBounds_toArray, List.set_cons_zero, List.set_cons_succ]
  refine wpAnyH_ready (rs := [11]) (by kernel_rfl) (by simp) ?_
  refine AllReadyH.cons rfl (fun K hK => ?_) (AllReadyH.nil)
  go_simp
  have HN2 := Lib.hid (Blk.new w6 2 #[.int .i64 100, .int .i64 5000, .int .i64 (IntKind.i64.wrap (100 + x6))])
  replace HR1 := Lib.hid (Blk.alloc (.cells #[.int .i64 100, .int .i64 5000, .int .i64 (IntKind.i64.wrap (100 + x6))] 2) HR1.out)
  replace HM := Lib.hid (Blk.alloc (.cells #[.int .i64 100, .int .i64 5000, .int .i64 (IntKind.i64.wrap (100 + x6))] 2) HM.out)
  replace HO2 := Lib.hid (Own.alloc (.cells #[.int .i64 100, .int .i64 5000, .int .i64 (IntKind.i64.wrap (100 + x6))] 2) HO2.out)
  replace HS := Lib.hid (Src.alloc (.cells #[.int .i64 100, .int .i64 5000, .int .i64 (IntKind.i64.wrap (100 + x6))] 2) HS.out)
  replace HK := Lib.hid (Kp.alloc (.cells #[.int .i64 100, .int .i64 5000, .int .i64 (IntKind.i64.wrap (100 + x6))] 2) HK.out)
  refine hK.out _ _ (⟨HM.out, trivial⟩) (fun hHeld => ?_)
  clear hK K
  try simp only [Act.put, List.setIfInBounds_toArray, List.set_cons_zero, List.set_cons_succ]
  refine wpAnyH_ready (rs := [12]) (by kernel_rfl) (by simp) ?_
  refine AllReadyH.cons rfl (fun K hK => ?_) AllReadyH.nil
  go_simp
  go_at_call 79; refine (l01Pick_c X A zs _ _ 2 _ _ (zsr HS) (by repeat (first | exact Blk.new _ _ _ | refine Blk.alloc _ ?_)) (by rfl) (by omega) (by omega) (by simp [isI]) (Nat.ne_of_gt (by have := HS.out.lt; first | omega | (simp; omega)))).mono ?_; rintro e w7 ⟨x7, i7, hi7, hp7, rfl, hd7⟩; have HP7 := Lib.hid hp7; clear hp7; have hkb := hd7.kp; have hka := zka HK hkb; have hlS7 := HS.out.lt; (try replace HR1 := zb hka hkb HR1); (try replace HM := zb hka hkb HM); (try replace HO2 := zo hka hkb HO2); replace HK := zt HK hka hkb; have hsz7 := hkb.size_; have hsy7 := hka.size_; (try simp only [World.size_alloc, World.size_drew, World.heap_drewN, World.size_setCell] at hsz7 hsy7); replace HS := Lib.hid hd7.src; clear hka hkb hd7 hlS7; have hlS7 := HS.out.lt
  go_wp2_with fail
  refine hK.out _ _ (⟨HM.out, trivial⟩) (fun hHeld => ?_)
  clear hK K
  try simp only [Act.put, List.setIfInBounds_toArray, List.set_cons_zero, List.set_cons_succ]
  refine wpAnyH_ready (rs := [13]) (by kernel_rfl) (by simp) ?_
  refine AllReadyH.cons rfl (fun K hK => ?_) AllReadyH.nil
  refine step_store_part 30 _ _ _ 0 (.agg #[.int .i64 C2.dg, .int .i64 C2.tn, .string C2.nm, .slice (some ⟨g2, 0, none⟩) C2.zs.length c2, .int .i64 C2.wd, .int .i64 C2.lf, .int .i64 C2.rt]) #[.int .i64 C2.dg, .int .i64 C2.tn, .string C2.nm, .slice (some ⟨g2, 0, none⟩) C2.zs.length c2, .int .i64 C2.wd, .int .i64 C2.lf, .int .i64 C2.rt] (Blk.kp (zk0 HK) (by first | omega | (simp; omega)) HR1.out) rfl rfl rfl rfl rfl (by rfl) (by kernel_rfl) (by simp [Value.oneCell']) (by simp) ?_; intro wS hBS hkb; simp only [setL, List.setIfInBounds_toArray, List.set_cons_zero, List.set_cons_succ] at hBS; have hka := zka HK hkb; have hlSo := HS.out.lt; (try replace HM := zb hka hkb HM); (try replace HO2 := zo hka hkb HO2); (try replace HS := Lib.hid (Src.kpg2 HS.out (by repeat (with_reducible first | exact Below.refl _ _ | refine Bel.alloc ?_ _ | refine Below.drew ?_ | refine Bel.drewN ?_ _)) hkb (by first | omega | (simp; omega)))); replace HR1 := Lib.hid hBS; replace HK := Lib.hid (Kp.own hkb (by first | omega | (simp; omega)) (Kp.trans HK.out hka)); have hszS := hkb.size_; have hsyS := hka.size_; (try simp only [World.size_alloc, World.size_drew, World.heap_drewN, World.size_setCell] at hszS hsyS); clear hBS hka hkb hlSo; have hlSS := HS.out.lt
  refine hK.out _ _ (⟨HM.out, trivial⟩) (fun hHeld => ?_)
  clear hK K
  try simp only [Act.put, List.setIfInBounds_toArray, List.set_cons_zero, List.set_cons_succ]
  refine wpAnyH_take (i := 14) (v := (.int .i64 x5)) rfl (by kernel_rfl) (by kernel_rfl) (by kernel_rfl) (fun _ _ _ h => h) (Or.inl ⟨by rfl, fun w _ => by simp [go_sem, execOp]⟩) hHeld ?_
  simp only [Act.put, List.getElem_toArray, List.getElem_cons_succ, List.getElem_cons_zero, List.setIfInBounds_toArray, List.set_cons_zero, List.set_cons_succ]
  refine wpAnyH_take (i := 15) (v := (.int .i64 x7)) rfl (by kernel_rfl) (by kernel_rfl) (by kernel_rfl) (fun _ _ _ h => h) (Or.inl ⟨by rfl, fun w _ => by simp [go_sem, execOp]⟩) hHeld ?_
  simp only [Act.put, List.getElem_toArray, List.getElem_cons_succ, List.getElem_cons_zero, List.setIfInBounds_toArray, List.set_cons_zero, List.set_cons_succ]
  refine wpAnyH_done (by kernel_rfl) ?_ _
  go_wp2
  exact bodyPost_ret (results_3 rfl (resF_cell HR1.out Tryz.underlying30 (by kernel_rfl) rfl) (resF_tmp _ rfl) (resF_tmp _ rfl)) rfl ⟨C2, g2, c2, x5, x7, rfl, by omega, by omega, Own.ge_mono HO2.out (by omega), Kp.toBel HK.out (by omega)⟩
set_option maxRecDepth 20000 in
set_option maxHeartbeats 8000000 in
theorem DrawGreatestModulus_c (A : Option Addr) (c : Nat) (zs : List Int) (hz : zs.length ≤ 4096) (w : World) (hA : Byts w A zs) :
    Calls Tryz.prog 32 #[.slice A zs.length c] w fun e w' => ∃ (C : Ch) (g c : Nat) (ud ut vd vt x : Int), e = .returned (.tuple #[.agg #[.int .i64 C.dg, .int .i64 C.tn, .string C.nm, .slice (some ⟨g, 0, none⟩) C.zs.length c, .int .i64 C.wd, .int .i64 C.lf, .int .i64 C.rt], .agg #[.int .i64 ud, .int .i64 ut], .agg #[.int .i64 vd, .int .i64 vt], .int .i64 x]) ∧ C.zs.length ≤ 27 ∧ C.nm.size ≤ 27 ∧ Own w' w.heap.size 2 (.slice (some ⟨g, 0, none⟩) C.zs.length c) C.zs ∧ Below w.heap.size w w' := by
  have HA := Lib.hid hA
  have HB := Lib.hid (Below.refl w.heap.size w)
  have HR1 := Lib.hid (by have h := Blk.new w 30 #[.int .i64 0, .int .i64 0, .string ⟨#[]⟩, .slice none 0 0, .int .i64 0, .int .i64 0, .int .i64 0]; (try simp only [World.size_alloc] at h); exact h)
  replace HB := Lib.hid (Bel.alloc HB.out (.cells #[.int .i64 0, .int .i64 0, .string ⟨#[]⟩, .slice none 0 0, .int .i64 0, .int .i64 0, .int .i64 0] 30))
  have HR2 := Lib.hid (by have h := Blk.new (w.alloc (.cells #[.int .i64 0, .int .i64 0, .string ⟨#[]⟩, .slice none 0 0, .int .i64 0, .int .i64 0, .int .i64 0] 30)) 25 #[.int .i64 0, .int .i64 0]; (try simp only [World.size_alloc] at h); exact h)
  replace HR1 := Lib.hid (Blk.alloc (.cells #[.int .i64 0, .int .i64 0] 25) HR1.out)
  replace HB := Lib.hid (Bel.alloc HB.out (.cells #[.int .i64 0, .int .i64 0] 25))
  have HR3 := Lib.hid (by have h := Blk.new ((w.alloc (.cells #[.int .i64 0, .int .i64 0, .string ⟨#[]⟩, .slice none 0 0, .int .i64 0, .int .i64 0, .int .i64 0] 30)).alloc (.cells #[.int .i64 0, .int .i64 0] 25)) 25 #[.int .i64 0, .int .i64 0]; (try simp only [World.size_alloc] at h); exact h)
  replace HR1 := Lib.hid (Blk.alloc (.cells #[.int .i64 0, .int .i64 0] 25) HR1.out)
  replace HR2 := Lib.hid (Blk.alloc (.cells #[.int .i64 0, .int .i64 0] 25) HR2.out)
  replace HB := Lib.hid (Bel.alloc HB.out (.cells #[.int .i64 0, .int .i64 0] 25))
  clear hA
  go_enter Tryz.func32, Tryz.ntmps32
  go_wp2_with fail
  go_at_call 44; refine (l01From_c A c zs hz _ (Byts.step (by repeat (with_reducible first | exact Below.refl _ _ | refine Bel.alloc ?_ _)) HA.out)).mono ?_; rintro e w1 ⟨X, rfl, hX, hS, hb1⟩; replace HR1 := Lib.hid (Blk.step hb1 HR1.out); replace HR2 := Lib.hid (Blk.step hb1 HR2.out); replace HR3 := Lib.hid (Blk.step hb1 HR3.out); have HS := Lib.hid hS; have HK := Lib.hid (Kp.below (X := X) (a := w) hb1 (by repeat (with_reducible first | exact Kp.refl _ _ | refine Kp.alloc _ ?_ | refine Kp.drew ?_ | refine Kp.drewN _ ?_))); have hlX := hS.lt; have hsz1 := hb1.size; (try simp only [World.size_alloc] at hX hsz1); clear hS hb1
  clear HB
  go_wp2_with fail
  go_at_call 51; refine (l23Draw_c X A zs _ (zsr HS)).mono ?_; rintro e w2 ⟨C2, g2, c2, rfl, ho2, hn2, hm2, hO2, hd2⟩; obtain ⟨hq2, hr2⟩ := World.ownsRow.lt hO2 g2 rfl; (try simp only [World.size_alloc] at hq2); have HO2 := Lib.hid hO2; clear hO2 ho2; have hkb := hd2.kp; have hka := zka HK hkb; have hlS2 := HS.out.lt; (try replace HR1 := zb hka hkb HR1); (try replace HR2 := zb hka hkb HR2); (try replace HR3 := zb hka hkb HR3); replace HK := zt HK hka hkb; have hsz2 := hkb.size_; have hsy2 := hka.size_; (try simp only [World.size_alloc, World.size_drew, World.heap_drewN, World.size_setCell] at hsz2 hsy2); replace HS := Lib.hid hd2.src; clear hka hkb hd2 hlS2; have hlS2 := HS.out.lt
  have HM := Lib.hid (Blk.new w2 30 #[.int .i64 C2.dg, .int .i64 C2.tn, .string C2.nm, .slice (some ⟨g2, 0, none⟩) C2.zs.length c2, .int .i64 C2.wd, .int .i64 C2.lf, .int .i64 C2.rt])
  replace HR1 := Lib.hid (Blk.alloc (.cells #[.int .i64 C2.dg, .int .i64 C2.tn, .string C2.nm, .slice (some ⟨g2, 0, none⟩) C2.zs.length c2, .int .i64 C2.wd, .int .i64 C2.lf, .int .i64 C2.rt] 30) HR1.out)
  replace HR2 := Lib.hid (Blk.alloc (.cells #[.int .i64 C2.dg, .int .i64 C2.tn, .string C2.nm, .slice (some ⟨g2, 0, none⟩) C2.zs.length c2, .int .i64 C2.wd, .int .i64 C2.lf, .int .i64 C2.rt] 30) HR2.out)
  replace HR3 := Lib.hid (Blk.alloc (.cells #[.int .i64 C2.dg, .int .i64 C2.tn, .string C2.nm, .slice (some ⟨g2, 0, none⟩) C2.zs.length c2, .int .i64 C2.wd, .int .i64 C2.lf, .int .i64 C2.rt] 30) HR3.out)
  replace HO2 := Lib.hid (Own.alloc (.cells #[.int .i64 C2.dg, .int .i64 C2.tn, .string C2.nm, .slice (some ⟨g2, 0, none⟩) C2.zs.length c2, .int .i64 C2.wd, .int .i64 C2.lf, .int .i64 C2.rt] 30) HO2.out)
  replace HS := Lib.hid (Src.alloc (.cells #[.int .i64 C2.dg, .int .i64 C2.tn, .string C2.nm, .slice (some ⟨g2, 0, none⟩) C2.zs.length c2, .int .i64 C2.wd, .int .i64 C2.lf, .int .i64 C2.rt] 30) HS.out)
  replace HK := Lib.hid (Kp.alloc (.cells #[.int .i64 C2.dg, .int .i64 C2.tn, .string C2.nm, .slice (some ⟨g2, 0, none⟩) C2.zs.length c2, .int .i64 C2.wd, .int .i64 C2.lf, .int .i64 C2.rt] 30) HK.out)
  have hlM := HM.out.lt
  go_wp2_with fail
  go_at_call 89; refine (l02Draw_c X A zs _ (zsr HS)).mono ?_; rintro e w3 ⟨d3, t3, rfl, ho3, hd3⟩; clear ho3; have hkb := hd3.kp; have hka := zka HK hkb; have hlS3 := HS.out.lt; (try replace HR1 := zb hka hkb HR1); (try replace HR2 := zb hka hkb HR2); (try replace HR3 := zb hka hkb HR3); (try replace HM := zb hka hkb HM); (try replace HO2 := zo hka hkb HO2); replace HK := zt HK hka hkb; have hsz3 := hkb.size_; have hsy3 := hka.size_; (try simp only [World.size_alloc, World.size_drew, World.heap_drewN, World.size_setCell] at hsz3 hsy3); replace HS := Lib.hid hd3.src; clear hka hkb hd3 hlS3; have hlS3 := HS.out.lt
  have HF := Lib.hid (Blk.new w3 25 #[.int .i64 d3, .int .i64 t3])
  replace HR1 := Lib.hid (Blk.alloc (.cells #[.int .i64 d3, .int .i64 t3] 25) HR1.out)
  replace HR2 := Lib.hid (Blk.alloc (.cells #[.int .i64 d3, .int .i64 t3] 25) HR2.out)
  replace HR3 := Lib.hid (Blk.alloc (.cells #[.int .i64 d3, .int .i64 t3] 25) HR3.out)
  replace HM := Lib.hid (Blk.alloc (.cells #[.int .i64 d3, .int .i64 t3] 25) HM.out)
  replace HO2 := Lib.hid (Own.alloc (.cells #[.int .i64 d3, .int .i64 t3] 25) HO2.out)
  replace HS := Lib.hid (Src.alloc (.cells #[.int .i64 d3, .int .i64 t3] 25) HS.out)
  replace HK := Lib.hid (Kp.alloc (.cells #[.int .i64 d3, .int .i64 t3] 25) HK.out)
  have hlZ := HF.out.lt
  go_upto_region 4 with (fail)
  refine wp_region_held_drew (S := fun W => Blk W w2.heap.size 30 #[.int .i64 C2.dg, .int .i64 C2.tn, .string C2.nm, .slice (some ⟨g2, 0, none⟩) C2.zs.length c2, .int .i64 C2.wd, .int .i64 C2.lf, .int .i64 C2.rt] ∧ Blk W w3.heap.size 25 #[.int .i64 d3, .int .i64 t3]) (by kernel_rfl) (⟨HM.out.drew, HF.out.drew⟩) (fun hHeld => ?_)
  replace HR1 := Lib.hid HR1.out.drew
  replace HR2 := Lib.hid HR2.out.drew
  replace HR3 := Lib.hid HR3.out.drew
  replace HM := Lib.hid HM.out.drew
  replace HF := Lib.hid HF.out.drew
  replace HO2 := Lib.hid HO2.out.drew
  replace HS := Lib.hid HS.out.drew
  replace HK := Lib.hid HK.out.drew
  have hsd : (w3.alloc (.cells #[.int .i64 d3, .int .i64 t3] 25)).drew.heap.size = (w3.alloc (.cells #[.int .i64 d3, .int .i64 t3] 25)).heap.size := rfl
  rw [← hsd] at hlZ
  clear hsd
  generalize (w3.alloc (.cells #[.int .i64 d3, .int .i64 t3] 25)).drew = v4 at HR1 HR2 HR3 HM HF HO2 HS HK hHeld hlZ ⊢
  refine wpAnyH_take (i := 0) (v := .agg #[.int .i64 C2.dg, .int .i64 C2.tn, .string C2.nm, .slice (some ⟨g2, 0, none⟩) C2.zs.length c2, .int .i64 C2.wd, .int .i64 C2.lf, .int .i64 C2.rt]) rfl (by kernel_rfl) (by kernel_rfl) (by kernel_rfl) (fun _ _ _ h => h) (yieldsIf_load_blk 30 _ (w2.heap.size) (fun _ h => h.1) Tryz.underlying30 (by kernel_rfl) (by rfl) rfl rfl) hHeld ?_
  simp only [Act.put, List.getElem_toArray, List.getElem_cons_succ, List.getElem_cons_zero, List.setIfInBounds_toArray, List.set_cons_zero, List.set_cons_succ]
  refine wpAnyH_take (i := 1) (v := .agg #[.int .i64 d3, .int .i64 t3]) rfl (by kernel_rfl) (by kernel_rfl) (by kernel_rfl) (fun _ _ _ h => h) (yieldsIf_load_blk 25 _ (w3.heap.size) (fun _ h => h.2) Tryz.underlying25 (by kernel_rfl) (by rfl) rfl rfl) hHeld ?_
  simp only [Act.put, List.getElem_toArray, List.getElem_cons_succ, List.getElem_cons_zero, List.setIfInBounds_toArray, List.set_cons_zero, List.set_cons_succ]
  refine wpAnyH_take (i := 2) (v := (.pointer (some ⟨X, 0, none⟩))) rfl (by kernel_rfl) (by kernel_rfl) (by kernel_rfl) (fun _ _ _ h => h) (Or.inl ⟨by rfl, fun w _ => by simp [go_sem, execOp]⟩) hHeld ?_
  simp only [Act.put, List.getElem_toArray, List.getElem_cons_succ, List.getElem_cons_zero, List.setIfInBounds_toArray, List.set_cons_zero, List.set_cons_succ]
  refine wpAnyH_take (i := 4) (v := (.pointer (some ⟨X, 0, none⟩))) rfl (by kernel_rfl) (by kernel_rfl) (by kernel_rfl) (fun _ _ _ h => h) (Or.inl ⟨by rfl, fun w _ => by simp [go_sem, execOp]⟩) hHeld ?_
  simp only [Act.put, List.getElem_toArray, List.getElem_cons_succ, List.getElem_cons_zero, List.setIfInBounds_toArray, List.set_cons_zero, List.set_cons_succ]
  refine wpAnyH_take (i := 5) (v := (.pointer (some ⟨X, 0, none⟩))) rfl (by kernel_rfl) (by kernel_rfl) (by kernel_rfl) (fun _ _ _ h => h) (Or.inl ⟨by rfl, fun w _ => by simp [go_sem, execOp]⟩) hHeld ?_
  simp only [Act.put, List.getElem_toArray, List.getElem_cons_succ, List.getElem_cons_zero, List.setIfInBounds_toArray, List.set_cons_zero, List.set_cons_succ]
  refine wpAnyH_ready (rs := [3]) (by kernel_rfl) (by simp) ?_
  refine AllReadyH.cons rfl (fun K hK => ?_) AllReadyH.nil
  go_simp
  go_at_call 89; refine (l02Draw_c X A zs _ (zsr HS)).mono ?_; rintro e w5 ⟨d5, t5, rfl, ho5, hd5⟩; clear ho5; have hkb := hd5.kp; have hka := zka HK hkb; have hlS5 := HS.out.lt; (try replace HR1 := zb hka hkb HR1); (try replace HR2 := zb hka hkb HR2); (try replace HR3 := zb hka hkb HR3); (try replace HM := zb hka hkb HM); (try replace HF := zb hka hkb HF); (try replace HO2 := zo hka hkb HO2); replace HK := zt HK hka hkb; have hsz5 := hkb.size_; have hsy5 := hka.size_; (try simp only [World.size_alloc, World.size_drew, World.heap_drewN, World.size_setCell] at hsz5 hsy5); replace HS := Lib.hid hd5.src; clear hka hkb hd5 hlS5; have hlS5 := HS.out.lt
  go_wp2_with fail
  refine hK.out _ _ (⟨HM.out, HF.out⟩) (fun hHeld => ?_)
  clear hK K
  try simp only [Act.put, List.setIfInBounds_toArray, List.set_cons_zero, List.set_cons_succ]
  refine wpAnyH_ready (rs := [6]) (by kernel_rfl) (by simp) ?_
  refine AllReadyH.cons rfl (fun K hK => ?_) AllReadyH.nil
  go_simp
  go_at_call 46; refine (l01Next_c X A zs _ (by omega) _ (zsr HS)).mono ?_; rintro e w6 ⟨x6, rfl, hx6, hy6, hd6⟩; (try rw [Int.max_eq_left (by omega)] at hy6); have hkb := hd6.kp; have hka := zka HK hkb; have hlS6 := HS.out.lt; (try replace HR1 := zb hka hkb HR1); (try replace HR2 := zb hka hkb HR2); (try replace HR3 := zb hka hkb HR3); (try replace HM := zb hka hkb HM); (try replace HF := zb hka hkb HF); (try replace HO2 := zo hka hkb HO2); replace HK := zt HK hka hkb; have hsz6 := hkb.size_; have hsy6 := hka.size_; (try simp only [World.size_alloc, World.size_drew, World.heap_drewN, World.size_setCell] at hsz6 hsy6); replace HS := Lib.hid hd6.src; clear hka hkb hd6 hlS6; have hlS6 := HS.out.lt
  go_wp2_with fail
  refine hK.out _ _ (⟨HM.out, HF.out⟩) (fun hHeld => ?_)
  clear hK K
  try simp only [Act.put, List.setIfInBounds_toArray, List.set_cons_zero, List.set_cons_succ]
  refine wpAnyH_ready (rs := [7]) (by kernel_rfl) (by simp) ?_
  refine AllReadyH.cons rfl (fun K hK => ?_) (AllReadyH.nil)
  go_simp
  have HN := Lib.hid (Blk.new w6 2 #[.int .i64 10000, .int .i64 20000, .int .i64 x6, .int .i64 0, .int .i64 100000, .int .i64 100001])
  replace HR1 := Lib.hid (Blk.alloc (.cells #[.int .i64 10000, .int .i64 20000, .int .i64 x6, .int .i64 0, .int .i64 100000, .int .i64 100001] 2) HR1.out)
  replace HR2 := Lib.hid (Blk.alloc (.cells #[.int .i64 10000, .int .i64 20000, .int .i64 x6, .int .i64 0, .int .i64 100000, .int .i64 100001] 2) HR2.out)
  replace HR3 := Lib.hid (Blk.alloc (.cells #[.int .i64 10000, .int .i64 20000, .int .i64 x6, .int .i64 0, .int .i64 100000, .int .i64 100001] 2) HR3.out)
  replace HM := Lib.hid (Blk.alloc (.cells #[.int .i64 10000, .int .i64 20000, .int .i64 x6, .int .i64 0, .int .i64 100000, .int .i64 100001] 2) HM.out)
  replace HF := Lib.hid (Blk.alloc (.cells #[.int .i64 10000, .int .i64 20000, .int .i64 x6, .int .i64 0, .int .i64 100000, .int .i64 100001] 2) HF.out)
  replace HO2 := Lib.hid (Own.alloc (.cells #[.int .i64 10000, .int .i64 20000, .int .i64 x6, .int .i64 0, .int .i64 100000, .int .i64 100001] 2) HO2.out)
  replace HS := Lib.hid (Src.alloc (.cells #[.int .i64 10000, .int .i64 20000, .int .i64 x6, .int .i64 0, .int .i64 100000, .int .i64 100001] 2) HS.out)
  replace HK := Lib.hid (Kp.alloc (.cells #[.int .i64 10000, .int .i64 20000, .int .i64 x6, .int .i64 0, .int .i64 100000, .int .i64 100001] 2) HK.out)
  refine hK.out _ _ (⟨HM.out, HF.out⟩) (fun hHeld => ?_)
  clear hK K
  try simp only [Act.put, List.setIfInBounds_toArray, List.set_cons_zero, List.set_cons_succ]
  refine wpAnyH_ready (rs := [8]) (by kernel_rfl) (by simp) ?_
  refine AllReadyH.cons rfl (fun K hK => ?_) AllReadyH.nil
  go_simp
  go_at_call 79; refine (l01Pick_c X A zs _ _ 2 _ _ (zsr HS) (by repeat (first | exact Blk.new _ _ _ | refine Blk.alloc _ ?_)) (by rfl) (by omega) (by omega) (by simp [isI]) (Nat.ne_of_gt (by have := HS.out.lt; first | omega | (simp; omega)))).mono ?_; rintro e w7 ⟨x7, i7, hi7, hp7, rfl, hd7⟩; have HP7 := Lib.hid hp7; clear hp7; have hkb := hd7.kp; have hka := zka HK hkb; have hlS7 := HS.out.lt; (try replace HR1 := zb hka hkb HR1); (try replace HR2 := zb hka hkb HR2); (try replace HR3 := zb hka hkb HR3); (try replace HM := zb hka hkb HM); (try replace HF := zb hka hkb HF); (try replace HO2 := zo hka hkb HO2); replace HK := zt HK hka hkb; have hsz7 := hkb.size_; have hsy7 := hka.size_; (try simp only [World.size_alloc, World.size_drew, World.heap_drewN, World.size_setCell] at hsz7 hsy7); replace HS := Lib.hid hd7.src; clear hka hkb hd7 hlS7; have hlS7 := HS.out.lt
  go_wp2_with fail
  refine hK.out _ _ (⟨HM.out, HF.out⟩) (fun hHeld => ?_)
  clear hK K
  try simp only [Act.put, List.setIfInBounds_toArray, List.set_cons_zero, List.set_cons_succ]
  refine wpAnyH_ready (rs := [9]) (by kernel_rfl) (by simp) ?_
  refine AllReadyH.cons rfl (fun K hK => ?_) AllReadyH.nil
  refine step_store_part 30 _ _ _ 0 (.agg #[.int .i64 C2.dg, .int .i64 C2.tn, .string C2.nm, .slice (some ⟨g2, 0, none⟩) C2.zs.length c2, .int .i64 C2.wd, .int .i64 C2.lf, .int .i64 C2.rt]) #[.int .i64 C2.dg, .int .i64 C2.tn, .string C2.nm, .slice (some ⟨g2, 0, none⟩) C2.zs.length c2, .int .i64 C2.wd, .int .i64 C2.lf, .int .i64 C2.rt] (Blk.kp (zk0 HK) (by first | omega | (simp; omega)) HR1.out) rfl rfl rfl rfl rfl (by rfl) (by kernel_rfl) (by simp [Value.oneCell']) (by simp) ?_; intro wS hBS hkb; simp only [setL, List.setIfInBounds_toArray, List.set_cons_zero, List.set_cons_succ] at hBS; have hka := zka HK hkb; have hlSo := HS.out.lt; (try replace HR2 := zb hka hkb HR2); (try replace HR3 := zb hka hkb HR3); (try replace HM := zb hka hkb HM); (try replace HF := zb hka hkb HF); (try replace HO2 := zo hka hkb HO2); (try replace HS := Lib.hid (Src.kpg2 HS.out (by repeat (with_reducible first | exact Below.refl _ _ | refine Bel.alloc ?_ _ | refine Below.drew ?_ | refine Bel.drewN ?_ _)) hkb (by first | omega | (simp; omega)))); replace HR1 := Lib.hid hBS; replace HK := Lib.hid (Kp.own hkb (by first | omega | (simp; omega)) (Kp.trans HK.out hka)); have hszS := hkb.size_; have hsyS := hka.size_; (try simp only [World.size_alloc, World.size_drew, World.heap_drewN, World.size_setCell] at hszS hsyS); clear hBS hka hkb hlSo; have hlSS := HS.out.lt
  refine hK.out _ _ (⟨HM.out, HF.out⟩) (fun hHeld => ?_)
  clear hK K
  try simp only [Act.put, List.setIfInBounds_toArray, List.set_cons_zero, List.set_cons_succ]
  refine wpAnyH_ready (rs := [10]) (by kernel_rfl) (by simp) ?_
  refine AllReadyH.cons rfl (fun K hK => ?_) AllReadyH.nil
  refine step_store_part 25 _ _ _ 0 (.agg #[.int .i64 d3, .int .i64 t3]) #[.int .i64 d3, .int .i64 t3] (Blk.kp (zk0 HK) (by first | omega | (simp; omega)) HR2.out) rfl rfl rfl rfl rfl (by rfl) (by kernel_rfl) (by simp [Value.oneCell']) (by simp) ?_; intro wS hBS hkb; simp only [setL, List.setIfInBounds_toArray, List.set_cons_zero, List.set_cons_succ] at hBS; have hka := zka HK hkb; have hlSo := HS.out.lt; (try replace HR1 := zb hka hkb HR1); (try replace HR3 := zb hka hkb HR3); (try replace HM := zb hka hkb HM); (try replace HF := zb hka hkb HF); (try replace HO2 := zo hka hkb HO2); (try replace HS := Lib.hid (Src.kpg2 HS.out (by repeat (with_reducible first | exact Below.refl _ _ | refine Bel.alloc ?_ _ | refine Below.drew ?_ | refine Bel.drewN ?_ _)) hkb (by first | omega | (simp; omega)))); replace HR2 := Lib.hid hBS; replace HK := Lib.hid (Kp.own hkb (by first | omega | (simp; omega)) (Kp.trans HK.out hka)); have hszS := hkb.size_; have hsyS := hka.size_; (try simp only [World.size_alloc, World.size_drew, World.heap_drewN, World.size_setCell] at hszS hsyS); clear hBS hka hkb hlSo; have hlSS := HS.out.lt
  refine hK.out _ _ (⟨HM.out, HF.out⟩) (fun hHeld => ?_)
  clear hK K
  try simp only [Act.put, List.setIfInBounds_toArray, List.set_cons_zero, List.set_cons_succ]
  refine wpAnyH_ready (rs := [11]) (by kernel_rfl) (by simp) ?_
  refine AllReadyH.cons rfl (fun K hK => ?_) AllReadyH.nil
  refine step_store_part 25 _ _ _ 0 (.agg #[.int .i64 d5, .int .i64 t5]) #[.int .i64 d5, .int .i64 t5] (Blk.kp (zk0 HK) (by first | omega | (simp; omega)) HR3.out) rfl rfl rfl rfl rfl (by rfl) (by kernel_rfl) (by simp [Value.oneCell']) (by simp) ?_; intro wS hBS hkb; simp only [setL, List.setIfInBounds_toArray, List.set_cons_zero, List.set_cons_succ] at hBS; have hka := zka HK hkb; have hlSo := HS.out.lt; (try replace HR1 := zb hka hkb HR1); (try replace HR2 := zb hka hkb HR2); (try replace HM := zb hka hkb HM); (try replace HF := zb hka hkb HF); (try replace HO2 := zo hka hkb HO2); (try replace HS := Lib.hid (Src.kpg2 HS.out (by repeat (with_reducible first | exact Below.refl _ _ | refine Bel.alloc ?_ _ | refine Below.drew ?_ | refine Bel.drewN ?_ _)) hkb (by first | omega | (simp; omega)))); replace HR3 := Lib.hid hBS; replace HK := Lib.hid (Kp.own hkb (by first | omega | (simp; omega)) (Kp.trans HK.out hka)); have hszS := hkb.size_; have hsyS := hka.size_; (try simp only [World.size_alloc, World.size_drew, World.heap_drewN, World.size_setCell] at hszS hsyS); clear hBS hka hkb hlSo; have hlSS := HS.out.lt
  refine hK.out _ _ (⟨HM.out, HF.out⟩) (fun hHeld => ?_)
  clear hK K
  try simp only [Act.put, List.setIfInBounds_toArray, List.set_cons_zero, List.set_cons_succ]
  refine wpAnyH_take (i := 12) (v := (.int .i64 x7)) rfl (by kernel_rfl) (by kernel_rfl) (by kernel_rfl) (fun _ _ _ h => h) (Or.inl ⟨by rfl, fun w _ => by simp [go_sem, execOp]⟩) hHeld ?_
  simp only [Act.put, List.getElem_toArray, List.getElem_cons_succ, List.getElem_cons_zero, List.setIfInBounds_toArray, List.set_cons_zero, List.set_cons_succ]
  refine wpAnyH_done (by kernel_rfl) ?_ _
  go_wp2
  exact bodyPost_ret (results_4 rfl (resF_cell HR1.out Tryz.underlying30 (by kernel_rfl) rfl) (resF_cell HR2.out Tryz.underlying25 (by kernel_rfl) rfl) (resF_cell HR3.out Tryz.underlying25 (by kernel_rfl) rfl) (resF_tmp _ rfl)) rfl ⟨C2, g2, c2, d3, t3, d5, t5, x7, rfl, by omega, by omega, Own.ge_mono HO2.out (by omega), Kp.toBel HK.out (by omega)⟩
set_option maxRecDepth 20000 in
set_option maxHeartbeats 8000000 in
theorem DrawCompareLayouts_c (A : Option Addr) (c : Nat) (zs : List Int) (hz : zs.length ≤ 4096) (w : World) (hA : Byts w A zs) :
    Calls Tryz.prog 35 #[.slice A zs.length c] w fun e w' => ∃ (C : Ch) (g c : Nat) (K : Ch) (g' c' : Nat) (us vs : List (Int × Int)) (G H : Option Addr) (cu cv : Nat) (ey : Int), e = .returned (.tuple #[.agg #[.int .i64 C.dg, .int .i64 C.tn, .string C.nm, .slice (some ⟨g, 0, none⟩) C.zs.length c, .int .i64 C.wd, .int .i64 C.lf, .int .i64 C.rt], .agg #[.int .i64 K.dg, .int .i64 K.tn, .string K.nm, .slice (some ⟨g', 0, none⟩) K.zs.length c', .int .i64 K.wd, .int .i64 K.lf, .int .i64 K.rt], .slice G us.length cu, .slice H vs.length cv, .int .i64 ey]) ∧ (C.zs.length ≤ 27 ∧ C.nm.size ≤ 27 ∧ K.zs.length ≤ 27 ∧ K.nm.size ≤ 27 ∧ us.length ≤ 13 ∧ vs.length ≤ 13) ∧ Ints w' (some ⟨g, 0, none⟩) C.zs ∧ Ints w' (some ⟨g', 0, none⟩) K.zs ∧ Prs w' G us ∧ Prs w' H vs ∧ Below w.heap.size w w' := by
  have HA := Lib.hid hA
  have HB := Lib.hid (Below.refl w.heap.size w)
  have HR1 := Lib.hid (by have h := Blk.new w 30 #[.int .i64 0, .int .i64 0, .string ⟨#[]⟩, .slice none 0 0, .int .i64 0, .int .i64 0, .int .i64 0]; (try simp only [World.size_alloc] at h); exact h)
  replace HB := Lib.hid (Bel.alloc HB.out (.cells #[.int .i64 0, .int .i64 0, .string ⟨#[]⟩, .slice none 0 0, .int .i64 0, .int .i64 0, .int .i64 0] 30))
  have HR2 := Lib.hid (by have h := Blk.new (w.alloc (.cells #[.int .i64 0, .int .i64 0, .string ⟨#[]⟩, .slice none 0 0, .int .i64 0, .int .i64 0, .int .i64 0] 30)) 30 #[.int .i64 0, .int .i64 0, .string ⟨#[]⟩, .slice none 0 0, .int .i64 0, .int .i64 0, .int .i64 0]; (try simp only [World.size_alloc] at h); exact h)
  replace HR1 := Lib.hid (Blk.alloc (.cells #[.int .i64 0, .int .i64 0, .string ⟨#[]⟩, .slice none 0 0, .int .i64 0, .int .i64 0, .int .i64 0] 30) HR1.out)
  replace HB := Lib.hid (Bel.alloc HB.out (.cells #[.int .i64 0, .int .i64 0, .string ⟨#[]⟩, .slice none 0 0, .int .i64 0, .int .i64 0, .int .i64 0] 30))
  clear hA
  go_enter Tryz.func35, Tryz.ntmps35
  go_wp2_with fail
  go_at_call 44; refine (l01From_c A c zs hz _ (Byts.step (by repeat (with_reducible first | exact Below.refl _ _ | refine Bel.alloc ?_ _)) HA.out)).mono ?_; rintro e w1 ⟨X, rfl, hX, hS, hb1⟩; replace HR1 := Lib.hid (Blk.step hb1 HR1.out); replace HR2 := Lib.hid (Blk.step hb1 HR2.out); have HS := Lib.hid hS; have HK := Lib.hid (Kp.below (X := X) (a := w) hb1 (by repeat (with_reducible first | exact Kp.refl _ _ | refine Kp.alloc _ ?_ | refine Kp.drew ?_ | refine Kp.drewN _ ?_))); have hlX := hS.lt; have hsz1 := hb1.size; (try simp only [World.size_alloc] at hX hsz1); clear hS hb1
  clear HB
  have hAc : Byts w1 A zs := ⟨HS.out.rng, fun hn => by obtain ⟨b, o, e, hlt, hc⟩ := HS.out.cells hn; exact ⟨b, o, e, Nat.lt_trans hlt HS.out.lt, hc⟩⟩
  go_wp2_with fail
  go_at_call 78; refine (l26Draw_c A c zs hz _ hAc).mono ?_; rintro e w2 ⟨C, g, q, us, vs, G, H, cu, cv, ey, rfl, hn2, hm2, hu2, hv2, hO2, hU2, hV2, hb2⟩; replace HR1 := Lib.hid (Blk.step hb2 HR1.out); replace HR2 := Lib.hid (Blk.step hb2 HR2.out); replace HS := Lib.hid (Src.step hb2 HS.out); replace HK := Lib.hid (Kp.below hb2 HK.out); have hsz2 := hb2.size; (try simp only [World.size_alloc] at hsz2); clear hb2; have hlS2 := HS.out.lt
  clear hAc
  obtain ⟨hq2, hr2⟩ := World.ownsRow.lt hO2 g rfl
  have hGHU2 : ∀ b, (Value.slice G us.length cu).ownBlock = some b → b < w2.heap.size := fun b hb => (World.ownsRow.lt hU2 b hb).2
  have hGHV2 : ∀ b, (Value.slice H vs.length cv).ownBlock = some b → b < w2.heap.size := fun b hb => (World.ownsRow.lt hV2 b hb).2
  have HO2 := Lib.hid hO2
  clear hO2
  have HU2 := Lib.hid hU2
  clear hU2
  have HV2 := Lib.hid hV2
  clear hV2
  have HM := Lib.hid (Blk.new w2 30 #[.int .i64 C.dg, .int .i64 C.tn, .string C.nm, .slice (some ⟨g, 0, none⟩) C.zs.length q, .int .i64 C.wd, .int .i64 C.lf, .int .i64 C.rt])
  replace HR1 := Lib.hid (Blk.alloc (.cells #[.int .i64 C.dg, .int .i64 C.tn, .string C.nm, .slice (some ⟨g, 0, none⟩) C.zs.length q, .int .i64 C.wd, .int .i64 C.lf, .int .i64 C.rt] 30) HR1.out)
  replace HR2 := Lib.hid (Blk.alloc (.cells #[.int .i64 C.dg, .int .i64 C.tn, .string C.nm, .slice (some ⟨g, 0, none⟩) C.zs.length q, .int .i64 C.wd, .int .i64 C.lf, .int .i64 C.rt] 30) HR2.out)
  replace HO2 := Lib.hid (Own.alloc (.cells #[.int .i64 C.dg, .int .i64 C.tn, .string C.nm, .slice (some ⟨g, 0, none⟩) C.zs.length q, .int .i64 C.wd, .int .i64 C.lf, .int .i64 C.rt] 30) HO2.out)
  replace HU2 := Lib.hid (OwnP.alloc (.cells #[.int .i64 C.dg, .int .i64 C.tn, .string C.nm, .slice (some ⟨g, 0, none⟩) C.zs.length q, .int .i64 C.wd, .int .i64 C.lf, .int .i64 C.rt] 30) HU2.out)
  replace HV2 := Lib.hid (OwnP.alloc (.cells #[.int .i64 C.dg, .int .i64 C.tn, .string C.nm, .slice (some ⟨g, 0, none⟩) C.zs.length q, .int .i64 C.wd, .int .i64 C.lf, .int .i64 C.rt] 30) HV2.out)
  replace HS := Lib.hid (Src.alloc (.cells #[.int .i64 C.dg, .int .i64 C.tn, .string C.nm, .slice (some ⟨g, 0, none⟩) C.zs.length q, .int .i64 C.wd, .int .i64 C.lf, .int .i64 C.rt] 30) HS.out)
  replace HK := Lib.hid (Kp.alloc (.cells #[.int .i64 C.dg, .int .i64 C.tn, .string C.nm, .slice (some ⟨g, 0, none⟩) C.zs.length q, .int .i64 C.wd, .int .i64 C.lf, .int .i64 C.rt] 30) HK.out)
  have hlZ := HM.out.lt
  have hlM := HM.out.lt
  go_upto_region 3 with (fail)
  refine wp_region_held_drew (S := fun W => Blk W w2.heap.size 30 #[.int .i64 C.dg, .int .i64 C.tn, .string C.nm, .slice (some ⟨g, 0, none⟩) C.zs.length q, .int .i64 C.wd, .int .i64 C.lf, .int .i64 C.rt] ∧ True) (by kernel_rfl) (⟨HM.out.drew, trivial⟩) (fun hHeld => ?_)
  replace HR1 := Lib.hid HR1.out.drew
  replace HR2 := Lib.hid HR2.out.drew
  replace HM := Lib.hid HM.out.drew
  replace HO2 := Lib.hid HO2.out.drew
  replace HU2 := Lib.hid HU2.out.drew
  replace HV2 := Lib.hid HV2.out.drew
  replace HS := Lib.hid HS.out.drew
  replace HK := Lib.hid HK.out.drew
  have hsd : (w2.alloc (.cells #[.int .i64 C.dg, .int .i64 C.tn, .string C.nm, .slice (some ⟨g, 0, none⟩) C.zs.length q, .int .i64 C.wd, .int .i64 C.lf, .int .i64 C.rt] 30)).drew.heap.size = (w2.alloc (.cells #[.int .i64 C.dg, .int .i64 C.tn, .string C.nm, .slice (some ⟨g, 0, none⟩) C.zs.length q, .int .i64 C.wd, .int .i64 C.lf, .int .i64 C.rt] 30)).heap.size := rfl
  rw [← hsd] at hlZ
  clear hsd
  generalize (w2.alloc (.cells #[.int .i64 C.dg, .int .i64 C.tn, .string C.nm, .slice (some ⟨g, 0, none⟩) C.zs.length q, .int .i64 C.wd, .int .i64 C.lf, .int .i64 C.rt] 30)).drew = v3 at HR1 HR2 HM HO2 HU2 HV2 HS HK hHeld hlZ ⊢
  refine wpAnyH_take (i := 0) (v := (.pointer (some ⟨w2.heap.size, 0, none⟩))) rfl (by kernel_rfl) (by kernel_rfl) (by kernel_rfl) (fun _ _ _ h => h) (Or.inl ⟨by rfl, fun w _ => by simp [go_sem, execOp]⟩) hHeld ?_
  simp only [Act.put, List.getElem_toArray, List.getElem_cons_succ, List.getElem_cons_zero, List.setIfInBounds_toArray, List.set_cons_zero, List.set_cons_succ]
  refine wpAnyH_take (i := 1) (v := (.agg #[.int .i64 C.dg, .int .i64 C.tn, .string C.nm, .slice (some ⟨g, 0, none⟩) C.zs.length q])) rfl (by kernel_rfl) (by kernel_rfl) (by kernel_rfl) (fun _ _ _ h => h) (Or.inl ⟨by rfl, fun w' h => by have q0 := h.1.cell 0; have q1 := h.1.cell 1; have q2 := h.1.cell 2; have q3 := h.1.cell 3; simp [go_sem, execOp, q0, q1, q2, q3]⟩) hHeld ?_
  simp only [Act.put, List.getElem_toArray, List.getElem_cons_succ, List.getElem_cons_zero, List.setIfInBounds_toArray, List.set_cons_zero, List.set_cons_succ]
  refine wpAnyH_take (i := 2) (v := (.pointer (some ⟨w2.heap.size, 4, none⟩))) rfl (by kernel_rfl) (by kernel_rfl) (by kernel_rfl) (fun _ _ _ h => h) (Or.inl ⟨by rfl, fun w _ => by simp [go_sem, execOp]⟩) hHeld ?_
  simp only [Act.put, List.getElem_toArray, List.getElem_cons_succ, List.getElem_cons_zero, List.setIfInBounds_toArray, List.set_cons_zero, List.set_cons_succ]
  refine wpAnyH_take (i := 3) (v := (.int .i64 C.wd)) rfl (by kernel_rfl) (by kernel_rfl) (by kernel_rfl) (fun _ _ _ h => h) (Or.inl ⟨by rfl, fun w' h => by have q0 := h.1.cell 4; simp [go_sem, execOp, q0]⟩) hHeld ?_
  simp only [Act.put, List.getElem_toArray, List.getElem_cons_succ, List.getElem_cons_zero, List.setIfInBounds_toArray, List.set_cons_zero, List.set_cons_succ]
  refine wpAnyH_take (i := 4) (v := (.pointer (some ⟨X, 0, none⟩))) rfl (by kernel_rfl) (by kernel_rfl) (by kernel_rfl) (fun _ _ _ h => h) (Or.inl ⟨by rfl, fun w _ => by simp [go_sem, execOp]⟩) hHeld ?_
  simp only [Act.put, List.getElem_toArray, List.getElem_cons_succ, List.getElem_cons_zero, List.setIfInBounds_toArray, List.set_cons_zero, List.set_cons_succ]
  refine wpAnyH_take (i := 7) (v := (.pointer (some ⟨w2.heap.size, 6, none⟩))) rfl (by kernel_rfl) (by kernel_rfl) (by kernel_rfl) (fun _ _ _ h => h) (Or.inl ⟨by rfl, fun w _ => by simp [go_sem, execOp]⟩) hHeld ?_
  simp only [Act.put, List.getElem_toArray, List.getElem_cons_succ, List.getElem_cons_zero, List.setIfInBounds_toArray, List.set_cons_zero, List.set_cons_succ]
  refine wpAnyH_take (i := 8) (v := (.int .i64 C.rt)) rfl (by kernel_rfl) (by kernel_rfl) (by kernel_rfl) (fun _ _ _ h => h) (Or.inl ⟨by rfl, fun w' h => by have q0 := h.1.cell 6; simp [go_sem, execOp, q0]⟩) hHeld ?_
  simp only [Act.put, List.getElem_toArray, List.getElem_cons_succ, List.getElem_cons_zero, List.setIfInBounds_toArray, List.set_cons_zero, List.set_cons_succ]
  refine wpAnyH_ready (rs := [5, 10]) (by kernel_rfl) (by simp) ?_
  refine AllReadyH.cons rfl (fun K hK => ?_) (AllReadyH.cons rfl (fun K hK => ?_) (AllReadyH.nil))
  · skip
    go_simp
    go_at_call 46; refine (l01Next_c X A zs _ (by omega) _ (zsr HS)).mono ?_; rintro e w5 ⟨x5, rfl, hx5, hy5, hd5⟩; (try rw [Int.max_eq_left (by omega)] at hy5); have hkb := hd5.kp; have hka := zka HK hkb; have hlS5 := HS.out.lt; (try replace HR1 := zb hka hkb HR1); (try replace HR2 := zb hka hkb HR2); (try replace HM := zb hka hkb HM); (try replace HO2 := zo hka hkb HO2); (try replace HU2 := zP hka hkb HU2); (try replace HV2 := zP hka hkb HV2); replace HK := zt HK hka hkb; have hsz5 := hkb.size_; have hsy5 := hka.size_; (try simp only [World.size_alloc, World.size_drew, World.heap_drewN, World.size_setCell] at hsz5 hsy5); replace HS := Lib.hid hd5.src; clear hka hkb hd5 hlS5; have hlS5 := HS.out.lt
    refine hK.out _ _ (⟨HM.out, trivial⟩) (fun hHeld => ?_)
    clear hK K
    try simp only [Act.put, List.setIfInBounds_toArray, List.set_cons_zero, List.set_cons_succ]
    refine wpAnyH_take (i := 6) (v := (.int .i64 (IntKind.i64.wrap (1000 + x5)))) rfl (by kernel_rfl) (by kernel_rfl) (by kernel_rfl) (fun _ _ _ h => h) (Or.inl ⟨by rfl, fun w _ => by simp [go_sem, execOp]⟩) hHeld ?_
    simp only [Act.put, List.getElem_toArray, List.getElem_cons_succ, List.getElem_cons_zero, List.setIfInBounds_toArray, List.set_cons_zero, List.set_cons_succ]
    generalize IntKind.i64.wrap (1000 + x5) = lf
    refine wpAnyH_take (i := 9) (v := (.agg #[.int .i64 C.dg, .int .i64 C.tn, .string C.nm, .slice (some ⟨g, 0, none⟩) C.zs.length q, .int .i64 C.wd, .int .i64 lf, .int .i64 C.rt])) rfl (by kernel_rfl) (by kernel_rfl) (by kernel_rfl) (fun _ _ _ h => h) (Or.inl ⟨by rfl, fun w _ => by simp [go_sem, execOp]⟩) hHeld ?_
    simp only [Act.put, List.getElem_toArray, List.getElem_cons_succ, List.getElem_cons_zero, List.setIfInBounds_toArray, List.set_cons_zero, List.set_cons_succ]
    refine wpAnyH_ready (rs := [10]) (by kernel_rfl) (by simp) ?_
    refine AllReadyH.cons rfl (fun K hK => ?_) (AllReadyH.nil)
    go_simp
    refine hK.out _ _ (⟨Blk.alloc _ HM.out, trivial⟩) (fun hHeld => ?_)
    clear hK K
    try simp only [Act.put, List.setIfInBounds_toArray, List.set_cons_zero, List.set_cons_succ]
    refine wpAnyH_ready (rs := [11]) (by kernel_rfl) (by simp) ?_
    refine AllReadyH.cons rfl (fun K hK => ?_) AllReadyH.nil
    go_simp
    refine hK.out _ _ (⟨Blk.alloc _ HM.out, trivial⟩) (fun hHeld => ?_)
    clear hK K
    try simp only [Act.put, List.setIfInBounds_toArray, List.set_cons_zero, List.set_cons_succ]
    refine wpAnyH_done (by kernel_rfl) ?_ _
    have HN := Lib.hid (Blk.new w5 30 #[.int .i64 C.dg, .int .i64 C.tn, .string C.nm, .slice (some ⟨g, 0, none⟩) C.zs.length q, .int .i64 C.wd, .int .i64 lf, .int .i64 C.rt])
    replace HR1 := Lib.hid (Blk.alloc (.cells #[.int .i64 C.dg, .int .i64 C.tn, .string C.nm, .slice (some ⟨g, 0, none⟩) C.zs.length q, .int .i64 C.wd, .int .i64 lf, .int .i64 C.rt] 30) HR1.out)
    replace HR2 := Lib.hid (Blk.alloc (.cells #[.int .i64 C.dg, .int .i64 C.tn, .string C.nm, .slice (some ⟨g, 0, none⟩) C.zs.length q, .int .i64 C.wd, .int .i64 lf, .int .i64 C.rt] 30) HR2.out)
    replace HM := Lib.hid (Blk.alloc (.cells #[.int .i64 C.dg, .int .i64 C.tn, .string C.nm, .slice (some ⟨g, 0, none⟩) C.zs.length q, .int .i64 C.wd, .int .i64 lf, .int .i64 C.rt] 30) HM.out)
    replace HO2 := Lib.hid (Own.alloc (.cells #[.int .i64 C.dg, .int .i64 C.tn, .string C.nm, .slice (some ⟨g, 0, none⟩) C.zs.length q, .int .i64 C.wd, .int .i64 lf, .int .i64 C.rt] 30) HO2.out)
    replace HU2 := Lib.hid (OwnP.alloc (.cells #[.int .i64 C.dg, .int .i64 C.tn, .string C.nm, .slice (some ⟨g, 0, none⟩) C.zs.length q, .int .i64 C.wd, .int .i64 lf, .int .i64 C.rt] 30) HU2.out)
    replace HV2 := Lib.hid (OwnP.alloc (.cells #[.int .i64 C.dg, .int .i64 C.tn, .string C.nm, .slice (some ⟨g, 0, none⟩) C.zs.length q, .int .i64 C.wd, .int .i64 lf, .int .i64 C.rt] 30) HV2.out)
    replace HS := Lib.hid (Src.alloc (.cells #[.int .i64 C.dg, .int .i64 C.tn, .string C.nm, .slice (some ⟨g, 0, none⟩) C.zs.length q, .int .i64 C.wd, .int .i64 lf, .int .i64 C.rt] 30) HS.out)
    replace HK := Lib.hid (Kp.alloc (.cells #[.int .i64 C.dg, .int .i64 C.tn, .string C.nm, .slice (some ⟨g, 0, none⟩) C.zs.length q, .int .i64 C.wd, .int .i64 lf, .int .i64 C.rt] 30) HK.out)
    have hlN0 := HN.out.lt
    go_wp2_with fail
    go_at_call 46; refine (l01Next_c X A zs _ (by omega) _ (zsr HS)).mono ?_; rintro e w6 ⟨x6, rfl, hx6, hy6, hd6⟩; (try rw [Int.max_eq_left (by omega)] at hy6); have hkb := hd6.kp; have hka := zka HK hkb; have hlS6 := HS.out.lt; (try replace HR1 := zb hka hkb HR1); (try replace HR2 := zb hka hkb HR2); (try replace HM := zb hka hkb HM); (try replace HO2 := zo hka hkb HO2); (try replace HU2 := zP hka hkb HU2); (try replace HV2 := zP hka hkb HV2); (try replace HN := zb hka hkb HN); replace HK := zt HK hka hkb; have hsz6 := hkb.size_; have hsy6 := hka.size_; (try simp only [World.size_alloc, World.size_drew, World.heap_drewN, World.size_setCell] at hsz6 hsy6); replace HS := Lib.hid hd6.src; clear hka hkb hd6 hlS6; have hlS6 := HS.out.lt
    have hlZ := HM.out.lt
    have hlN := HN.out.lt
    by_cases q6 : x6 = 0
    · go_upto_region 5 with (fail)
      refine wp_region_held_drew (S := fun W => Blk W w2.heap.size 30 #[.int .i64 C.dg, .int .i64 C.tn, .string C.nm, .slice (some ⟨g, 0, none⟩) C.zs.length q, .int .i64 C.wd, .int .i64 C.lf, .int .i64 C.rt] ∧ True) (by kernel_rfl) (⟨HM.out.drew, trivial⟩) (fun hHeld => ?_)
      replace HR1 := Lib.hid HR1.out.drew
      replace HR2 := Lib.hid HR2.out.drew
      replace HM := Lib.hid HM.out.drew
      replace HO2 := Lib.hid HO2.out.drew
      replace HU2 := Lib.hid HU2.out.drew
      replace HV2 := Lib.hid HV2.out.drew
      replace HS := Lib.hid HS.out.drew
      replace HK := Lib.hid HK.out.drew
      have hsd : w6.drew.heap.size = w6.heap.size := rfl
      rw [← hsd] at hlZ hlN
      clear hsd
      generalize w6.drew = v7 at HR1 HR2 HM HO2 HU2 HV2 HS HK hHeld hlZ hlN ⊢
      refine wpAnyH_take (i := 0) (v := .agg #[.int .i64 C.dg, .int .i64 C.tn, .string C.nm, .slice (some ⟨g, 0, none⟩) C.zs.length q, .int .i64 C.wd, .int .i64 C.lf, .int .i64 C.rt]) rfl (by kernel_rfl) (by kernel_rfl) (by kernel_rfl) (fun _ _ _ h => h) (yieldsIf_load_blk 30 _ (w2.heap.size) (fun _ h => h.1) Tryz.underlying30 (by kernel_rfl) (by rfl) rfl rfl) hHeld ?_
      simp only [Act.put, List.getElem_toArray, List.getElem_cons_succ, List.getElem_cons_zero, List.setIfInBounds_toArray, List.set_cons_zero, List.set_cons_succ]
      refine wpAnyH_take (i := 1) (v := (.pointer (some ⟨X, 0, none⟩))) rfl (by kernel_rfl) (by kernel_rfl) (by kernel_rfl) (fun _ _ _ h => h) (Or.inl ⟨by rfl, fun w _ => by simp [go_sem, execOp]⟩) hHeld ?_
      simp only [Act.put, List.getElem_toArray, List.getElem_cons_succ, List.getElem_cons_zero, List.setIfInBounds_toArray, List.set_cons_zero, List.set_cons_succ]
      refine wpAnyH_take (i := 3) (v := (.slice G us.length cu)) rfl (by kernel_rfl) (by kernel_rfl) (by kernel_rfl) (fun _ _ _ h => h) (Or.inl ⟨by rfl, fun w _ => by simp [go_sem, execOp]⟩) hHeld ?_
      simp only [Act.put, List.getElem_toArray, List.getElem_cons_succ, List.getElem_cons_zero, List.setIfInBounds_toArray, List.set_cons_zero, List.set_cons_succ]
      refine wpAnyH_take (i := 4) (v := (.slice H vs.length cv)) rfl (by kernel_rfl) (by kernel_rfl) (by kernel_rfl) (fun _ _ _ h => h) (Or.inl ⟨by rfl, fun w _ => by simp [go_sem, execOp]⟩) hHeld ?_
      simp only [Act.put, List.getElem_toArray, List.getElem_cons_succ, List.getElem_cons_zero, List.setIfInBounds_toArray, List.set_cons_zero, List.set_cons_succ]
      refine wpAnyH_take (i := 5) (v := (.int .i64 ey)) rfl (by kernel_rfl) (by kernel_rfl) (by kernel_rfl) (fun _ _ _ h => h) (Or.inl ⟨by rfl, fun w _ => by simp [go_sem, execOp]⟩) hHeld ?_
      simp only [Act.put, List.getElem_toArray, List.getElem_cons_succ, List.getElem_cons_zero, List.setIfInBounds_toArray, List.set_cons_zero, List.set_cons_succ]
      refine wpAnyH_ready (rs := [2]) (by kernel_rfl) (by simp) ?_
      refine AllReadyH.cons rfl (fun K hK => ?_) AllReadyH.nil
      go_simp
      go_at_call 51; refine (l23Draw_c X A zs _ (zsr HS)).mono ?_; rintro e w8 ⟨C8, g8, c8, rfl, ho8, hn8, hm8, hO8, hd8⟩; obtain ⟨hq8, hr8⟩ := World.ownsRow.lt hO8 g8 rfl; (try simp only [World.size_alloc] at hq8); have HO8 := Lib.hid hO8; clear hO8 ho8; have hkb := hd8.kp; have hka := zka HK hkb; have hlS8 := HS.out.lt; (try replace HR1 := zb hka hkb HR1); (try replace HR2 := zb hka hkb HR2); (try replace HM := zb hka hkb HM); (try replace HO2 := zo hka hkb HO2); (try replace HU2 := zP hka hkb HU2); (try replace HV2 := zP hka hkb HV2); replace HK := zt HK hka hkb; have hsz8 := hkb.size_; have hsy8 := hka.size_; (try simp only [World.size_alloc, World.size_drew, World.heap_drewN, World.size_setCell] at hsz8 hsy8); replace HS := Lib.hid hd8.src; clear hka hkb hd8 hlS8; have hlS8 := HS.out.lt
      go_wp2_with fail
      refine hK.out _ _ (⟨HM.out, trivial⟩) (fun hHeld => ?_)
      clear hK K
      try simp only [Act.put, List.setIfInBounds_toArray, List.set_cons_zero, List.set_cons_succ]
      refine wpAnyH_ready (rs := [6]) (by kernel_rfl) (by simp) ?_
      refine AllReadyH.cons rfl (fun K hK => ?_) AllReadyH.nil
      refine step_store_part 30 _ _ _ 0 (.agg #[.int .i64 C.dg, .int .i64 C.tn, .string C.nm, .slice (some ⟨g, 0, none⟩) C.zs.length q, .int .i64 C.wd, .int .i64 C.lf, .int .i64 C.rt]) #[.int .i64 C.dg, .int .i64 C.tn, .string C.nm, .slice (some ⟨g, 0, none⟩) C.zs.length q, .int .i64 C.wd, .int .i64 C.lf, .int .i64 C.rt] (Blk.kp (zk0 HK) (by first | omega | (simp; omega)) HR1.out) rfl rfl rfl rfl rfl (by rfl) (by kernel_rfl) (by simp [Value.oneCell']) (by simp) ?_; intro wS hBS hkb; simp only [setL, List.setIfInBounds_toArray, List.set_cons_zero, List.set_cons_succ] at hBS; have hka := zka HK hkb; have hlSo := HS.out.lt; (try replace HR2 := zb hka hkb HR2); (try replace HM := zb hka hkb HM); (try replace HO2 := zo hka hkb HO2); (try replace HO8 := zo hka hkb HO8); (try replace HU2 := zP hka hkb HU2); (try replace HV2 := zP hka hkb HV2); (try replace HS := Lib.hid (Src.kpg2 HS.out (by repeat (with_reducible first | exact Below.refl _ _ | refine Bel.alloc ?_ _ | refine Below.drew ?_ | refine Bel.drewN ?_ _)) hkb (by first | omega | (simp; omega)))); replace HR1 := Lib.hid hBS; replace HK := Lib.hid (Kp.own hkb (by first | omega | (simp; omega)) (Kp.trans HK.out hka)); have hszS := hkb.size_; have hsyS := hka.size_; (try simp only [World.size_alloc, World.size_drew, World.heap_drewN, World.size_setCell] at hszS hsyS); clear hBS hka hkb hlSo; have hlSS := HS.out.lt
      refine hK.out _ _ (⟨HM.out, trivial⟩) (fun hHeld => ?_)
      clear hK K
      try simp only [Act.put, List.setIfInBounds_toArray, List.set_cons_zero, List.set_cons_succ]
      refine wpAnyH_ready (rs := [7]) (by kernel_rfl) (by simp) ?_
      refine AllReadyH.cons rfl (fun K hK => ?_) AllReadyH.nil
      refine step_store_part 30 _ _ _ 0 (.agg #[.int .i64 C8.dg, .int .i64 C8.tn, .string C8.nm, .slice (some ⟨g8, 0, none⟩) C8.zs.length c8, .int .i64 C8.wd, .int .i64 C8.lf, .int .i64 C8.rt]) #[.int .i64 C8.dg, .int .i64 C8.tn, .string C8.nm, .slice (some ⟨g8, 0, none⟩) C8.zs.length c8, .int .i64 C8.wd, .int .i64 C8.lf, .int .i64 C8.rt] (Blk.kp (zk0 HK) (by first | omega | (simp; omega)) HR2.out) rfl rfl rfl rfl rfl (by rfl) (by kernel_rfl) (by simp [Value.oneCell']) (by simp) ?_; intro wS hBS hkb; simp only [setL, List.setIfInBounds_toArray, List.set_cons_zero, List.set_cons_succ] at hBS; have hka := zka HK hkb; have hlSo := HS.out.lt; (try replace HR1 := zb hka hkb HR1); (try replace HM := zb hka hkb HM); (try replace HO2 := zo hka hkb HO2); (try replace HO8 := zo hka hkb HO8); (try replace HU2 := zP hka hkb HU2); (try replace HV2 := zP hka hkb HV2); (try replace HS := Lib.hid (Src.kpg2 HS.out (by repeat (with_reducible first | exact Below.refl _ _ | refine Bel.alloc ?_ _ | refine Below.drew ?_ | refine Bel.drewN ?_ _)) hkb (by first | omega | (simp; omega)))); replace HR2 := Lib.hid hBS; replace HK := Lib.hid (Kp.own hkb (by first | omega | (simp; omega)) (Kp.trans HK.out hka)); have hszS := hkb.size_; have hsyS := hka.size_; (try simp only [World.size_alloc, World.size_drew, World.heap_drewN, World.size_setCell] at hszS hsyS); clear hBS hka hkb hlSo; have hlSS := HS.out.lt
      refine hK.out _ _ (⟨HM.out, trivial⟩) (fun hHeld => ?_)
      clear hK K
      try simp only [Act.put, List.setIfInBounds_toArray, List.set_cons_zero, List.set_cons_succ]
      refine wpAnyH_take (i := 8) (v := (.slice G us.length cu)) rfl (by kernel_rfl) (by kernel_rfl) (by kernel_rfl) (fun _ _ _ h => h) (Or.inl ⟨by rfl, fun w _ => by simp [go_sem, execOp]⟩) hHeld ?_
      simp only [Act.put, List.getElem_toArray, List.getElem_cons_succ, List.getElem_cons_zero, List.setIfInBounds_toArray, List.set_cons_zero, List.set_cons_succ]
      refine wpAnyH_take (i := 9) (v := (.slice H vs.length cv)) rfl (by kernel_rfl) (by kernel_rfl) (by kernel_rfl) (fun _ _ _ h => h) (Or.inl ⟨by rfl, fun w _ => by simp [go_sem, execOp]⟩) hHeld ?_
      simp only [Act.put, List.getElem_toArray, List.getElem_cons_succ, List.getElem_cons_zero, List.setIfInBounds_toArray, List.set_cons_zero, List.set_cons_succ]
      refine wpAnyH_take (i := 10) (v := (.int .i64 ey)) rfl (by kernel_rfl) (by kernel_rfl) (by kernel_rfl) (fun _ _ _ h => h) (Or.inl ⟨by rfl, fun w _ => by simp [go_sem, execOp]⟩) hHeld ?_
      simp only [Act.put, List.getElem_toArray, List.getElem_cons_succ, List.getElem_cons_zero, List.setIfInBounds_toArray, List.set_cons_zero, List.set_cons_succ]
      refine wpAnyH_done (by kernel_rfl) ?_ _
      go_wp2
      exact bodyPost_ret (results_5 rfl (resF_cell HR1.out Tryz.underlying30 (by kernel_rfl) rfl) (resF_cell HR2.out Tryz.underlying30 (by kernel_rfl) rfl) (resF_tmp _ rfl) (resF_tmp _ rfl) (resF_tmp _ rfl)) rfl ⟨C, g, q, C8, g8, c8, us, vs, G, H, cu, cv, ey, rfl, ⟨hn2, hm2, by omega, by omega, hu2, hv2⟩, HO2.out.ints, HO8.out.ints, HU2.out.prs, HV2.out.prs, Kp.toBel HK.out (by omega)⟩
    · go_upto_region 6 with (fail)
      refine wp_region_held_drew (S := fun W => Blk W w2.heap.size 30 #[.int .i64 C.dg, .int .i64 C.tn, .string C.nm, .slice (some ⟨g, 0, none⟩) C.zs.length q, .int .i64 C.wd, .int .i64 C.lf, .int .i64 C.rt] ∧ Blk W w5.heap.size 30 #[.int .i64 C.dg, .int .i64 C.tn, .string C.nm, .slice (some ⟨g, 0, none⟩) C.zs.length q, .int .i64 C.wd, .int .i64 lf, .int .i64 C.rt]) (by kernel_rfl) (⟨HM.out.drew, HN.out.drew⟩) (fun hHeld => ?_)
      replace HR1 := Lib.hid HR1.out.drew
      replace HR2 := Lib.hid HR2.out.drew
      replace HM := Lib.hid HM.out.drew
      replace HO2 := Lib.hid HO2.out.drew
      replace HU2 := Lib.hid HU2.out.drew
      replace HV2 := Lib.hid HV2.out.drew
      replace HN := Lib.hid HN.out.drew
      replace HS := Lib.hid HS.out.drew
      replace HK := Lib.hid HK.out.drew
      have hsd : w6.drew.heap.size = w6.heap.size := rfl
      rw [← hsd] at hlZ hlN
      clear hsd
      generalize w6.drew = v7 at HR1 HR2 HM HO2 HU2 HV2 HN HS HK hHeld hlZ hlN ⊢
      refine wpAnyH_take (i := 0) (v := .agg #[.int .i64 C.dg, .int .i64 C.tn, .string C.nm, .slice (some ⟨g, 0, none⟩) C.zs.length q, .int .i64 C.wd, .int .i64 C.lf, .int .i64 C.rt]) rfl (by kernel_rfl) (by kernel_rfl) (by kernel_rfl) (fun _ _ _ h => h) (yieldsIf_load_blk 30 _ (w2.heap.size) (fun _ h => h.1) Tryz.underlying30 (by kernel_rfl) (by rfl) rfl rfl) hHeld ?_
      simp only [Act.put, List.getElem_toArray, List.getElem_cons_succ, List.getElem_cons_zero, List.setIfInBounds_toArray, List.set_cons_zero, List.set_cons_succ]
      refine wpAnyH_take (i := 1) (v := .agg #[.int .i64 C.dg, .int .i64 C.tn, .string C.nm, .slice (some ⟨g, 0, none⟩) C.zs.length q, .int .i64 C.wd, .int .i64 lf, .int .i64 C.rt]) rfl (by kernel_rfl) (by kernel_rfl) (by kernel_rfl) (fun _ _ _ h => h) (yieldsIf_load_blk 30 _ (w5.heap.size) (fun _ h => h.2) Tryz.underlying30 (by kernel_rfl) (by rfl) rfl rfl) hHeld ?_
      simp only [Act.put, List.getElem_toArray, List.getElem_cons_succ, List.getElem_cons_zero, List.setIfInBounds_toArray, List.set_cons_zero, List.set_cons_succ]
      refine wpAnyH_take (i := 2) (v := (.slice G us.length cu)) rfl (by kernel_rfl) (by kernel_rfl) (by kernel_rfl) (fun _ _ _ h => h) (Or.inl ⟨by rfl, fun w _ => by simp [go_sem, execOp]⟩) hHeld ?_
      simp only [Act.put, List.getElem_toArray, List.getElem_cons_succ, List.getElem_cons_zero, List.setIfInBounds_toArray, List.set_cons_zero, List.set_cons_succ]
      refine wpAnyH_take (i := 3) (v := (.slice H vs.length cv)) rfl (by kernel_rfl) (by kernel_rfl) (by kernel_rfl) (fun _ _ _ h => h) (Or.inl ⟨by rfl, fun w _ => by simp [go_sem, execOp]⟩) hHeld ?_
      simp only [Act.put, List.getElem_toArray, List.getElem_cons_succ, List.getElem_cons_zero, List.setIfInBounds_toArray, List.set_cons_zero, List.set_cons_succ]
      refine wpAnyH_take (i := 4) (v := (.int .i64 ey)) rfl (by kernel_rfl) (by kernel_rfl) (by kernel_rfl) (fun _ _ _ h => h) (Or.inl ⟨by rfl, fun w _ => by simp [go_sem, execOp]⟩) hHeld ?_
      simp only [Act.put, List.getElem_toArray, List.getElem_cons_succ, List.getElem_cons_zero, List.setIfInBounds_toArray, List.set_cons_zero, List.set_cons_succ]
      refine wpAnyH_ready (rs := [5]) (by kernel_rfl) (by simp) ?_
      refine AllReadyH.cons rfl (fun K hK => ?_) AllReadyH.nil
      refine step_store_part 30 _ _ _ 0 (.agg #[.int .i64 C.dg, .int .i64 C.tn, .string C.nm, .slice (some ⟨g, 0, none⟩) C.zs.length q, .int .i64 C.wd, .int .i64 C.lf, .int .i64 C.rt]) #[.int .i64 C.dg, .int .i64 C.tn, .string C.nm, .slice (some ⟨g, 0, none⟩) C.zs.length q, .int .i64 C.wd, .int .i64 C.lf, .int .i64 C.rt] (Blk.kp (zk0 HK) (by first | omega | (simp; omega)) HR1.out) rfl rfl rfl rfl rfl (by rfl) (by kernel_rfl) (by simp [Value.oneCell']) (by simp) ?_; intro wS hBS hkb; simp only [setL, List.setIfInBounds_toArray, List.set_cons_zero, List.set_cons_succ] at hBS; have hka := zka HK hkb; have hlSo := HS.out.lt; (try replace HR2 := zb hka hkb HR2); (try replace HM := zb hka hkb HM); (try replace HN := zb hka hkb HN); (try replace HO2 := zo hka hkb HO2); (try replace HU2 := zP hka hkb HU2); (try replace HV2 := zP hka hkb HV2); (try replace HS := Lib.hid (Src.kpg2 HS.out (by repeat (with_reducible first | exact Below.refl _ _ | refine Bel.alloc ?_ _ | refine Below.drew ?_ | refine Bel.drewN ?_ _)) hkb (by first | omega | (simp; omega)))); replace HR1 := Lib.hid hBS; replace HK := Lib.hid (Kp.own hkb (by first | omega | (simp; omega)) (Kp.trans HK.out hka)); have hszS := hkb.size_; have hsyS := hka.size_; (try simp only [World.size_alloc, World.size_drew, World.heap_drewN, World.size_setCell] at hszS hsyS); clear hBS hka hkb hlSo; have hlSS := HS.out.lt
      refine hK.out _ _ (⟨HM.out, HN.out⟩) (fun hHeld => ?_)
      clear hK K
      try simp only [Act.put, List.setIfInBounds_toArray, List.set_cons_zero, List.set_cons_succ]
      refine wpAnyH_ready (rs := [6]) (by kernel_rfl) (by simp) ?_
      refine AllReadyH.cons rfl (fun K hK => ?_) AllReadyH.nil
      refine step_store_part 30 _ _ _ 0 (.agg #[.int .i64 C.dg, .int .i64 C.tn, .string C.nm, .slice (some ⟨g, 0, none⟩) C.zs.length q, .int .i64 C.wd, .int .i64 lf, .int .i64 C.rt]) #[.int .i64 C.dg, .int .i64 C.tn, .string C.nm, .slice (some ⟨g, 0, none⟩) C.zs.length q, .int .i64 C.wd, .int .i64 lf, .int .i64 C.rt] (Blk.kp (zk0 HK) (by first | omega | (simp; omega)) HR2.out) rfl rfl rfl rfl rfl (by rfl) (by kernel_rfl) (by simp [Value.oneCell']) (by simp) ?_; intro wS hBS hkb; simp only [setL, List.setIfInBounds_toArray, List.set_cons_zero, List.set_cons_succ] at hBS; have hka := zka HK hkb; have hlSo := HS.out.lt; (try replace HR1 := zb hka hkb HR1); (try replace HM := zb hka hkb HM); (try replace HN := zb hka hkb HN); (try replace HO2 := zo hka hkb HO2); (try replace HU2 := zP hka hkb HU2); (try replace HV2 := zP hka hkb HV2); (try replace HS := Lib.hid (Src.kpg2 HS.out (by repeat (with_reducible first | exact Below.refl _ _ | refine Bel.alloc ?_ _ | refine Below.drew ?_ | refine Bel.drewN ?_ _)) hkb (by first | omega | (simp; omega)))); replace HR2 := Lib.hid hBS; replace HK := Lib.hid (Kp.own hkb (by first | omega | (simp; omega)) (Kp.trans HK.out hka)); have hszS := hkb.size_; have hsyS := hka.size_; (try simp only [World.size_alloc, World.size_drew, World.heap_drewN, World.size_setCell] at hszS hsyS); clear hBS hka hkb hlSo; have hlSS := HS.out.lt
      refine hK.out _ _ (⟨HM.out, HN.out⟩) (fun hHeld => ?_)
      clear hK K
      try simp only [Act.put, List.setIfInBounds_toArray, List.set_cons_zero, List.set_cons_succ]
      refine wpAnyH_take (i := 7) (v := (.slice G us.length cu)) rfl (by kernel_rfl) (by kernel_rfl) (by kernel_rfl) (fun _ _ _ h => h) (Or.inl ⟨by rfl, fun w _ => by simp [go_sem, execOp]⟩) hHeld ?_
      simp only [Act.put, List.getElem_toArray, List.getElem_cons_succ, List.getElem_cons_zero, List.setIfInBounds_toArray, List.set_cons_zero, List.set_cons_succ]
      refine wpAnyH_take (i := 8) (v := (.slice H vs.length cv)) rfl (by kernel_rfl) (by kernel_rfl) (by kernel_rfl) (fun _ _ _ h => h) (Or.inl ⟨by rfl, fun w _ => by simp [go_sem, execOp]⟩) hHeld ?_
      simp only [Act.put, List.getElem_toArray, List.getElem_cons_succ, List.getElem_cons_zero, List.setIfInBounds_toArray, List.set_cons_zero, List.set_cons_succ]
      refine wpAnyH_take (i := 9) (v := (.int .i64 ey)) rfl (by kernel_rfl) (by kernel_rfl) (by kernel_rfl) (fun _ _ _ h => h) (Or.inl ⟨by rfl, fun w _ => by simp [go_sem, execOp]⟩) hHeld ?_
      simp only [Act.put, List.getElem_toArray, List.getElem_cons_succ, List.getElem_cons_zero, List.setIfInBounds_toArray, List.set_cons_zero, List.set_cons_succ]
      refine wpAnyH_done (by kernel_rfl) ?_ _
      go_wp2
      exact bodyPost_ret (results_5 rfl (resF_cell HR1.out Tryz.underlying30 (by kernel_rfl) rfl) (resF_cell HR2.out Tryz.underlying30 (by kernel_rfl) rfl) (resF_tmp _ rfl) (resF_tmp _ rfl) (resF_tmp _ rfl)) rfl ⟨C, g, q, ({ C with lf := lf } : Ch), g, q, us, vs, G, H, cu, cv, ey, rfl, ⟨hn2, hm2, hn2, hm2, hu2, hv2⟩, HO2.out.ints, HO2.out.ints, HU2.out.prs, HV2.out.prs, Kp.toBel HK.out (by omega)⟩
  · skip
    go_simp
    have HN := Lib.hid (Blk.new v3 30 #[.int .i64 0, .int .i64 0, .string ⟨#[]⟩, .slice none 0 0, .int .i64 0, .int .i64 0, .int .i64 0])
    replace HR1 := Lib.hid (Blk.alloc (.cells #[.int .i64 0, .int .i64 0, .string ⟨#[]⟩, .slice none 0 0, .int .i64 0, .int .i64 0, .int .i64 0] 30) HR1.out)
    replace HR2 := Lib.hid (Blk.alloc (.cells #[.int .i64 0, .int .i64 0, .string ⟨#[]⟩, .slice none 0 0, .int .i64 0, .int .i64 0, .int .i64 0] 30) HR2.out)
    replace HM := Lib.hid (Blk.alloc (.cells #[.int .i64 0, .int .i64 0, .string ⟨#[]⟩, .slice none 0 0, .int .i64 0, .int .i64 0, .int .i64 0] 30) HM.out)
    replace HO2 := Lib.hid (Own.alloc (.cells #[.int .i64 0, .int .i64 0, .string ⟨#[]⟩, .slice none 0 0, .int .i64 0, .int .i64 0, .int .i64 0] 30) HO2.out)
    replace HU2 := Lib.hid (OwnP.alloc (.cells #[.int .i64 0, .int .i64 0, .string ⟨#[]⟩, .slice none 0 0, .int .i64 0, .int .i64 0, .int .i64 0] 30) HU2.out)
    replace HV2 := Lib.hid (OwnP.alloc (.cells #[.int .i64 0, .int .i64 0, .string ⟨#[]⟩, .slice none 0 0, .int .i64 0, .int .i64 0, .int .i64 0] 30) HV2.out)
    replace HS := Lib.hid (Src.alloc (.cells #[.int .i64 0, .int .i64 0, .string ⟨#[]⟩, .slice none 0 0, .int .i64 0, .int .i64 0, .int .i64 0] 30) HS.out)
    replace HK := Lib.hid (Kp.alloc (.cells #[.int .i64 0, .int .i64 0, .string ⟨#[]⟩, .slice none 0 0, .int .i64 0, .int .i64 0, .int .i64 0] 30) HK.out)
    have hlN0 := HN.out.lt
    refine hK.out _ _ (⟨HM.out, trivial⟩) (fun hHeld => ?_)
    clear hK K
    try simp only [Act.put, List.setIfInBounds_toArray, List.set_cons_zero, List.set_cons_succ]
    refine wpAnyH_ready (rs := [5]) (by kernel_rfl) (by simp) ?_
    refine AllReadyH.cons rfl (fun K hK => ?_) (AllReadyH.nil)
    go_simp
    go_at_call 46; refine (l01Next_c X A zs _ (by omega) _ (zsr HS)).mono ?_; rintro e w5 ⟨x5, rfl, hx5, hy5, hd5⟩; (try rw [Int.max_eq_left (by omega)] at hy5); have hkb := hd5.kp; have hka := zka HK hkb; have hlS5 := HS.out.lt; (try replace HR1 := zb hka hkb HR1); (try replace HR2 := zb hka hkb HR2); (try replace HM := zb hka hkb HM); (try replace HO2 := zo hka hkb HO2); (try replace HU2 := zP hka hkb HU2); (try replace HV2 := zP hka hkb HV2); (try replace HN := zb hka hkb HN); replace HK := zt HK hka hkb; have hsz5 := hkb.size_; have hsy5 := hka.size_; (try simp only [World.size_alloc, World.size_drew, World.heap_drewN, World.size_setCell] at hsz5 hsy5); replace HS := Lib.hid hd5.src; clear hka hkb hd5 hlS5; have hlS5 := HS.out.lt
    refine hK.out _ _ (⟨HM.out, trivial⟩) (fun hHeld => ?_)
    clear hK K
    try simp only [Act.put, List.setIfInBounds_toArray, List.set_cons_zero, List.set_cons_succ]
    refine wpAnyH_take (i := 6) (v := (.int .i64 (IntKind.i64.wrap (1000 + x5)))) rfl (by kernel_rfl) (by kernel_rfl) (by kernel_rfl) (fun _ _ _ h => h) (Or.inl ⟨by rfl, fun w _ => by simp [go_sem, execOp]⟩) hHeld ?_
    simp only [Act.put, List.getElem_toArray, List.getElem_cons_succ, List.getElem_cons_zero, List.setIfInBounds_toArray, List.set_cons_zero, List.set_cons_succ]
    generalize IntKind.i64.wrap (1000 + x5) = lf
    refine wpAnyH_take (i := 9) (v := (.agg #[.int .i64 C.dg, .int .i64 C.tn, .string C.nm, .slice (some ⟨g, 0, none⟩) C.zs.length q, .int .i64 C.wd, .int .i64 lf, .int .i64 C.rt])) rfl (by kernel_rfl) (by kernel_rfl) (by kernel_rfl) (fun _ _ _ h => h) (Or.inl ⟨by rfl, fun w _ => by simp [go_sem, execOp]⟩) hHeld ?_
    simp only [Act.put, List.getElem_toArray, List.getElem_cons_succ, List.getElem_cons_zero, List.setIfInBounds_toArray, List.set_cons_zero, List.set_cons_succ]
    have hlN1 := HN.out.lt
    refine wpAnyH_ready (rs := [11]) (by kernel_rfl) (by simp) ?_
    refine AllReadyH.cons rfl (fun K hK => ?_) AllReadyH.nil
    refine step_store_part 30 _ _ _ 0 (.agg #[.int .i64 C.dg, .int .i64 C.tn, .string C.nm, .slice (some ⟨g, 0, none⟩) C.zs.length q, .int .i64 C.wd, .int .i64 lf, .int .i64 C.rt]) #[.int .i64 C.dg, .int .i64 C.tn, .string C.nm, .slice (some ⟨g, 0, none⟩) C.zs.length q, .int .i64 C.wd, .int .i64 lf, .int .i64 C.rt] (Blk.kp (zk0 HK) (by first | omega | (simp; omega)) HN.out) rfl rfl rfl rfl rfl (by rfl) (by kernel_rfl) (by simp [Value.oneCell']) (by simp) ?_; intro wS hBS hkb; simp only [setL, List.setIfInBounds_toArray, List.set_cons_zero, List.set_cons_succ] at hBS; have hka := zka HK hkb; have hlSo := HS.out.lt; (try replace HR1 := zb hka hkb HR1); (try replace HR2 := zb hka hkb HR2); (try replace HM := zb hka hkb HM); (try replace HO2 := zo hka hkb HO2); (try (replace HU2 := Lib.hid (OwnP.kept (OwnP.kp hka (by first | omega | (simp; omega)) HU2.out) hkb (own_ne hGHU2 (by first | omega | (simp; omega)))))); (try (replace HV2 := Lib.hid (OwnP.kept (OwnP.kp hka (by first | omega | (simp; omega)) HV2.out) hkb (own_ne hGHV2 (by first | omega | (simp; omega)))))); (try replace HS := Lib.hid (Src.kpg2 HS.out (by repeat (with_reducible first | exact Below.refl _ _ | refine Bel.alloc ?_ _ | refine Below.drew ?_ | refine Bel.drewN ?_ _)) hkb (by first | omega | (simp; omega)))); replace HN := Lib.hid hBS; replace HK := Lib.hid (Kp.own hkb (by first | omega | (simp; omega)) (Kp.trans HK.out hka)); have hszS := hkb.size_; have hsyS := hka.size_; (try simp only [World.size_alloc, World.size_drew, World.heap_drewN, World.size_setCell] at hszS hsyS); clear hBS hka hkb hlSo; have hlSS := HS.out.lt
    refine hK.out _ _ (⟨HM.out, trivial⟩) (fun hHeld => ?_)
    clear hK K
    try simp only [Act.put, List.setIfInBounds_toArray, List.set_cons_zero, List.set_cons_succ]
    refine wpAnyH_done (by kernel_rfl) ?_ _
    go_wp2_with fail
    go_at_call 46; refine (l01Next_c X A zs _ (by omega) _ (zsr HS)).mono ?_; rintro e w6 ⟨x6, rfl, hx6, hy6, hd6⟩; (try rw [Int.max_eq_left (by omega)] at hy6); have hkb := hd6.kp; have hka := zka HK hkb; have hlS6 := HS.out.lt; (try replace HR1 := zb hka hkb HR1); (try replace HR2 := zb hka hkb HR2); (try replace HM := zb hka hkb HM); (try replace HO2 := zo hka hkb HO2); (try replace HU2 := zP hka hkb HU2); (try replace HV2 := zP hka hkb HV2); (try replace HN := zb hka hkb HN); replace HK := zt HK hka hkb; have hsz6 := hkb.size_; have hsy6 := hka.size_; (try simp only [World.size_alloc, World.size_drew, World.heap_drewN, World.size_setCell] at hsz6 hsy6); replace HS := Lib.hid hd6.src; clear hka hkb hd6 hlS6; have hlS6 := HS.out.lt
    have hlZ := HM.out.lt
    have hlN := HN.out.lt
    by_cases q6 : x6 = 0
    · go_upto_region 5 with (fail)
      refine wp_region_held_drew (S := fun W => Blk W w2.heap.size 30 #[.int .i64 C.dg, .int .i64 C.tn, .string C.nm, .slice (some ⟨g, 0, none⟩) C.zs.length q, .int .i64 C.wd, .int .i64 C.lf, .int .i64 C.rt] ∧ True) (by kernel_rfl) (⟨HM.out.drew, trivial⟩) (fun hHeld => ?_)
      replace HR1 := Lib.hid HR1.out.drew
      replace HR2 := Lib.hid HR2.out.drew
      replace HM := Lib.hid HM.out.drew
      replace HO2 := Lib.hid HO2.out.drew
      replace HU2 := Lib.hid HU2.out.drew
      replace HV2 := Lib.hid HV2.out.drew
      replace HS := Lib.hid HS.out.drew
      replace HK := Lib.hid HK.out.drew
      have hsd : w6.drew.heap.size = w6.heap.size := rfl
      rw [← hsd] at hlZ hlN
      clear hsd
      generalize w6.drew = v7 at HR1 HR2 HM HO2 HU2 HV2 HS HK hHeld hlZ hlN ⊢
      refine wpAnyH_take (i := 0) (v := .agg #[.int .i64 C.dg, .int .i64 C.tn, .string C.nm, .slice (some ⟨g, 0, none⟩) C.zs.length q, .int .i64 C.wd, .int .i64 C.lf, .int .i64 C.rt]) rfl (by kernel_rfl) (by kernel_rfl) (by kernel_rfl) (fun _ _ _ h => h) (yieldsIf_load_blk 30 _ (w2.heap.size) (fun _ h => h.1) Tryz.underlying30 (by kernel_rfl) (by rfl) rfl rfl) hHeld ?_
      simp only [Act.put, List.getElem_toArray, List.getElem_cons_succ, List.getElem_cons_zero, List.setIfInBounds_toArray, List.set_cons_zero, List.set_cons_succ]
      refine wpAnyH_take (i := 1) (v := (.pointer (some ⟨X, 0, none⟩))) rfl (by kernel_rfl) (by kernel_rfl) (by kernel_rfl) (fun _ _ _ h => h) (Or.inl ⟨by rfl, fun w _ => by simp [go_sem, execOp]⟩) hHeld ?_
      simp only [Act.put, List.getElem_toArray, List.getElem_cons_succ, List.getElem_cons_zero, List.setIfInBounds_toArray, List.set_cons_zero, List.set_cons_succ]
      refine wpAnyH_take (i := 3) (v := (.slice G us.length cu)) rfl (by kernel_rfl) (by kernel_rfl) (by kernel_rfl) (fun _ _ _ h => h) (Or.inl ⟨by rfl, fun w _ => by simp [go_sem, execOp]⟩) hHeld ?_
      simp only [Act.put, List.getElem_toArray, List.getElem_cons_succ, List.getElem_cons_zero, List.setIfInBounds_toArray, List.set_cons_zero, List.set_cons_succ]
      refine wpAnyH_take (i := 4) (v := (.slice H vs.length cv)) rfl (by kernel_rfl) (by kernel_rfl) (by kernel_rfl) (fun _ _ _ h => h) (Or.inl ⟨by rfl, fun w _ => by simp [go_sem, execOp]⟩) hHeld ?_
      simp only [Act.put, List.getElem_toArray, List.getElem_cons_succ, List.getElem_cons_zero, List.setIfInBounds_toArray, List.set_cons_zero, List.set_cons_succ]
      refine wpAnyH_take (i := 5) (v := (.int .i64 ey)) rfl (by kernel_rfl) (by kernel_rfl) (by kernel_rfl) (fun _ _ _ h => h) (Or.inl ⟨by rfl, fun w _ => by simp [go_sem, execOp]⟩) hHeld ?_
      simp only [Act.put, List.getElem_toArray, List.getElem_cons_succ, List.getElem_cons_zero, List.setIfInBounds_toArray, List.set_cons_zero, List.set_cons_succ]
      refine wpAnyH_ready (rs := [2]) (by kernel_rfl) (by simp) ?_
      refine AllReadyH.cons rfl (fun K hK => ?_) AllReadyH.nil
      go_simp
      go_at_call 51; refine (l23Draw_c X A zs _ (zsr HS)).mono ?_; rintro e w8 ⟨C8, g8, c8, rfl, ho8, hn8, hm8, hO8, hd8⟩; obtain ⟨hq8, hr8⟩ := World.ownsRow.lt hO8 g8 rfl; (try simp only [World.size_alloc] at hq8); have HO8 := Lib.hid hO8; clear hO8 ho8; have hkb := hd8.kp; have hka := zka HK hkb; have hlS8 := HS.out.lt; (try replace HR1 := zb hka hkb HR1); (try replace HR2 := zb hka hkb HR2); (try replace HM := zb hka hkb HM); (try replace HO2 := zo hka hkb HO2); (try replace HU2 := zP hka hkb HU2); (try replace HV2 := zP hka hkb HV2); replace HK := zt HK hka hkb; have hsz8 := hkb.size_; have hsy8 := hka.size_; (try simp only [World.size_alloc, World.size_drew, World.heap_drewN, World.size_setCell] at hsz8 hsy8); replace HS := Lib.hid hd8.src; clear hka hkb hd8 hlS8; have hlS8 := HS.out.lt
      go_wp2_with fail
      refine hK.out _ _ (⟨HM.out, trivial⟩) (fun hHeld => ?_)
      clear hK K
      try simp only [Act.put, List.setIfInBounds_toArray, List.set_cons_zero, List.set_cons_succ]
      refine wpAnyH_ready (rs := [6]) (by kernel_rfl) (by simp) ?_
      refine AllReadyH.cons rfl (fun K hK => ?_) AllReadyH.nil
      refine step_store_part 30 _ _ _ 0 (.agg #[.int .i64 C.dg, .int .i64 C.tn, .string C.nm, .slice (some ⟨g, 0, none⟩) C.zs.length q, .int .i64 C.wd, .int .i64 C.lf, .int .i64 C.rt]) #[.int .i64 C.dg, .int .i64 C.tn, .string C.nm, .slice (some ⟨g, 0, none⟩) C.zs.length q, .int .i64 C.wd, .int .i64 C.lf, .int .i64 C.rt] (Blk.kp (zk0 HK) (by first | omega | (simp; omega)) HR1.out) rfl rfl rfl rfl rfl (by rfl) (by kernel_rfl) (by simp [Value.oneCell']) (by simp) ?_; intro wS hBS hkb; simp only [setL, List.setIfInBounds_toArray, List.set_cons_zero, List.set_cons_succ] at hBS; have hka := zka HK hkb; have hlSo := HS.out.lt; (try replace HR2 := zb hka hkb HR2); (try replace HM := zb hka hkb HM); (try replace HO2 := zo hka hkb HO2); (try replace HO8 := zo hka hkb HO8); (try replace HU2 := zP hka hkb HU2); (try replace HV2 := zP hka hkb HV2); (try replace HS := Lib.hid (Src.kpg2 HS.out (by repeat (with_reducible first | exact Below.refl _ _ | refine Bel.alloc ?_ _ | refine Below.drew ?_ | refine Bel.drewN ?_ _)) hkb (by first | omega | (simp; omega)))); replace HR1 := Lib.hid hBS; replace HK := Lib.hid (Kp.own hkb (by first | omega | (simp; omega)) (Kp.trans HK.out hka)); have hszS := hkb.size_; have hsyS := hka.size_; (try simp only [World.size_alloc, World.size_drew, World.heap_drewN, World.size_setCell] at hszS hsyS); clear hBS hka hkb hlSo; have hlSS := HS.out.lt
      refine hK.out _ _ (⟨HM.out, trivial⟩) (fun hHeld => ?_)
      clear hK K
      try simp only [Act.put, List.setIfInBounds_toArray, List.set_cons_zero, List.set_cons_succ]
      refine wpAnyH_ready (rs := [7]) (by kernel_rfl) (by simp) ?_
      refine AllReadyH.cons rfl (fun K hK => ?_) AllReadyH.nil
      refine step_store_part 30 _ _ _ 0 (.agg #[.int .i64 C8.dg, .int .i64 C8.tn, .string C8.nm, .slice (some ⟨g8, 0, none⟩) C8.zs.length c8, .int .i64 C8.wd, .int .i64 C8.lf, .int .i64 C8.rt]) #[.int .i64 C8.dg, .int .i64 C8.tn, .string C8.nm, .slice (some ⟨g8, 0, none⟩) C8.zs.length c8, .int .i64 C8.wd, .int .i64 C8.lf, .int .i64 C8.rt] (Blk.kp (zk0 HK) (by first | omega | (simp; omega)) HR2.out) rfl rfl rfl rfl rfl (by rfl) (by kernel_rfl) (by simp [Value.oneCell']) (by simp) ?_; intro wS hBS hkb; simp only [setL, List.setIfInBounds_toArray, List.set_cons_zero, List.set_cons_succ] at hBS; have hka := zka HK hkb; have hlSo := HS.out.lt; (try replace HR1 := zb hka hkb HR1); (try replace HM := zb hka hkb HM); (try replace HO2 := zo hka hkb HO2); (try replace HO8 := zo hka hkb HO8); (try replace HU2 := zP hka hkb HU2); (try replace HV2 := zP hka hkb HV2); (try replace HS := Lib.hid (Src.kpg2 HS.out (by repeat (with_reducible first | exact Below.refl _ _ | refine Bel.alloc ?_ _ | refine Below.drew ?_ | refine Bel.drewN ?_ _)) hkb (by first | omega | (simp; omega)))); replace HR2 := Lib.hid hBS; replace HK := Lib.hid (Kp.own hkb (by first | omega | (simp; omega)) (Kp.trans HK.out hka)); have hszS := hkb.size_; have hsyS := hka.size_; (try simp only [World.size_alloc, World.size_drew, World.heap_drewN, World.size_setCell] at hszS hsyS); clear hBS hka hkb hlSo; have hlSS := HS.out.lt
      refine hK.out _ _ (⟨HM.out, trivial⟩) (fun hHeld => ?_)
      clear hK K
      try simp only [Act.put, List.setIfInBounds_toArray, List.set_cons_zero, List.set_cons_succ]
      refine wpAnyH_take (i := 8) (v := (.slice G us.length cu)) rfl (by kernel_rfl) (by kernel_rfl) (by kernel_rfl) (fun _ _ _ h => h) (Or.inl ⟨by rfl, fun w _ => by simp [go_sem, execOp]⟩) hHeld ?_
      simp only [Act.put, List.getElem_toArray, List.getElem_cons_succ, List.getElem_cons_zero, List.setIfInBounds_toArray, List.set_cons_zero, List.set_cons_succ]
      refine wpAnyH_take (i := 9) (v := (.slice H vs.length cv)) rfl (by kernel_rfl) (by kernel_rfl) (by kernel_rfl) (fun _ _ _ h => h) (Or.inl ⟨by rfl, fun w _ => by simp [go_sem, execOp]⟩) hHeld ?_
      simp only [Act.put, List.getElem_toArray, List.getElem_cons_succ, List.getElem_cons_zero, List.setIfInBounds_toArray, List.set_cons_zero, List.set_cons_succ]
      refine wpAnyH_take (i := 10) (v := (.int .i64 ey)) rfl (by kernel_rfl) (by kernel_rfl) (by kernel_rfl) (fun _ _ _ h => h) (Or.inl ⟨by rfl, fun w _ => by simp [go_sem, execOp]⟩) hHeld ?_
      simp only [Act.put, List.getElem_toArray, List.getElem_cons_succ, List.getElem_cons_zero, List.setIfInBounds_toArray, List.set_cons_zero, List.set_cons_succ]
      refine wpAnyH_done (by kernel_rfl) ?_ _
      go_wp2
      exact bodyPost_ret (results_5 rfl (resF_cell HR1.out Tryz.underlying30 (by kernel_rfl) rfl) (resF_cell HR2.out Tryz.underlying30 (by kernel_rfl) rfl) (resF_tmp _ rfl) (resF_tmp _ rfl) (resF_tmp _ rfl)) rfl ⟨C, g, q, C8, g8, c8, us, vs, G, H, cu, cv, ey, rfl, ⟨hn2, hm2, by omega, by omega, hu2, hv2⟩, HO2.out.ints, HO8.out.ints, HU2.out.prs, HV2.out.prs, Kp.toBel HK.out (by omega)⟩
    · go_upto_region 6 with (fail)
      refine wp_region_held_drew (S := fun W => Blk W w2.heap.size 30 #[.int .i64 C.dg, .int .i64 C.tn, .string C.nm, .slice (some ⟨g, 0, none⟩) C.zs.length q, .int .i64 C.wd, .int .i64 C.lf, .int .i64 C.rt] ∧ Blk W v3.heap.size 30 #[.int .i64 C.dg, .int .i64 C.tn, .string C.nm, .slice (some ⟨g, 0, none⟩) C.zs.length q, .int .i64 C.wd, .int .i64 lf, .int .i64 C.rt]) (by kernel_rfl) (⟨HM.out.drew, HN.out.drew⟩) (fun hHeld => ?_)
      replace HR1 := Lib.hid HR1.out.drew
      replace HR2 := Lib.hid HR2.out.drew
      replace HM := Lib.hid HM.out.drew
      replace HO2 := Lib.hid HO2.out.drew
      replace HU2 := Lib.hid HU2.out.drew
      replace HV2 := Lib.hid HV2.out.drew
      replace HN := Lib.hid HN.out.drew
      replace HS := Lib.hid HS.out.drew
      replace HK := Lib.hid HK.out.drew
      have hsd : w6.drew.heap.size = w6.heap.size := rfl
      rw [← hsd] at hlZ hlN
      clear hsd
      generalize w6.drew = v7 at HR1 HR2 HM HO2 HU2 HV2 HN HS HK hHeld hlZ hlN ⊢
      refine wpAnyH_take (i := 0) (v := .agg #[.int .i64 C.dg, .int .i64 C.tn, .string C.nm, .slice (some ⟨g, 0, none⟩) C.zs.length q, .int .i64 C.wd, .int .i64 C.lf, .int .i64 C.rt]) rfl (by kernel_rfl) (by kernel_rfl) (by kernel_rfl) (fun _ _ _ h => h) (yieldsIf_load_blk 30 _ (w2.heap.size) (fun _ h => h.1) Tryz.underlying30 (by kernel_rfl) (by rfl) rfl rfl) hHeld ?_
      simp only [Act.put, List.getElem_toArray, List.getElem_cons_succ, List.getElem_cons_zero, List.setIfInBounds_toArray, List.set_cons_zero, List.set_cons_succ]
      refine wpAnyH_take (i := 1) (v := .agg #[.int .i64 C.dg, .int .i64 C.tn, .string C.nm, .slice (some ⟨g, 0, none⟩) C.zs.length q, .int .i64 C.wd, .int .i64 lf, .int .i64 C.rt]) rfl (by kernel_rfl) (by kernel_rfl) (by kernel_rfl) (fun _ _ _ h => h) (yieldsIf_load_blk 30 _ (v3.heap.size) (fun _ h => h.2) Tryz.underlying30 (by kernel_rfl) (by rfl) rfl rfl) hHeld ?_
      simp only [Act.put, List.getElem_toArray, List.getElem_cons_succ, List.getElem_cons_zero, List.setIfInBounds_toArray, List.set_cons_zero, List.set_cons_succ]
      refine wpAnyH_take (i := 2) (v := (.slice G us.length cu)) rfl (by kernel_rfl) (by kernel_rfl) (by kernel_rfl) (fun _ _ _ h => h) (Or.inl ⟨by rfl, fun w _ => by simp [go_sem, execOp]⟩) hHeld ?_
      simp only [Act.put, List.getElem_toArray, List.getElem_cons_succ, List.getElem_cons_zero, List.setIfInBounds_toArray, List.set_cons_zero, List.set_cons_succ]
      refine wpAnyH_take (i := 3) (v := (.slice H vs.length cv)) rfl (by kernel_rfl) (by kernel_rfl) (by kernel_rfl) (fun _ _ _ h => h) (Or.inl ⟨by rfl, fun w _ => by simp [go_sem, execOp]⟩) hHeld ?_
      simp only [Act.put, List.getElem_toArray, List.getElem_cons_succ, List.getElem_cons_zero, List.setIfInBounds_toArray, List.set_cons_zero, List.set_cons_succ]
      refine wpAnyH_take (i := 4) (v := (.int .i64 ey)) rfl (by kernel_rfl) (by kernel_rfl) (by kernel_rfl) (fun _ _ _ h => h) (Or.inl ⟨by rfl, fun w _ => by simp [go_sem, execOp]⟩) hHeld ?_
      simp only [Act.put, List.getElem_toArray, List.getElem_cons_succ, List.getElem_cons_zero, List.setIfInBounds_toArray, List.set_cons_zero, List.set_cons_succ]
      refine wpAnyH_ready (rs := [5]) (by kernel_rfl) (by simp) ?_
      refine AllReadyH.cons rfl (fun K hK => ?_) AllReadyH.nil
      refine step_store_part 30 _ _ _ 0 (.agg #[.int .i64 C.dg, .int .i64 C.tn, .string C.nm, .slice (some ⟨g, 0, none⟩) C.zs.length q, .int .i64 C.wd, .int .i64 C.lf, .int .i64 C.rt]) #[.int .i64 C.dg, .int .i64 C.tn, .string C.nm, .slice (some ⟨g, 0, none⟩) C.zs.length q, .int .i64 C.wd, .int .i64 C.lf, .int .i64 C.rt] (Blk.kp (zk0 HK) (by first | omega | (simp; omega)) HR1.out) rfl rfl rfl rfl rfl (by rfl) (by kernel_rfl) (by simp [Value.oneCell']) (by simp) ?_; intro wS hBS hkb; simp only [setL, List.setIfInBounds_toArray, List.set_cons_zero, List.set_cons_succ] at hBS; have hka := zka HK hkb; have hlSo := HS.out.lt; (try replace HR2 := zb hka hkb HR2); (try replace HM := zb hka hkb HM); (try replace HN := zb hka hkb HN); (try replace HO2 := zo hka hkb HO2); (try replace HU2 := zP hka hkb HU2); (try replace HV2 := zP hka hkb HV2); (try replace HS := Lib.hid (Src.kpg2 HS.out (by repeat (with_reducible first | exact Below.refl _ _ | refine Bel.alloc ?_ _ | refine Below.drew ?_ | refine Bel.drewN ?_ _)) hkb (by first | omega | (simp; omega)))); replace HR1 := Lib.hid hBS; replace HK := Lib.hid (Kp.own hkb (by first | omega | (simp; omega)) (Kp.trans HK.out hka)); have hszS := hkb.size_; have hsyS := hka.size_; (try simp only [World.size_alloc, World.size_drew, World.heap_drewN, World.size_setCell] at hszS hsyS); clear hBS hka hkb hlSo; have hlSS := HS.out.lt
      refine hK.out _ _ (⟨HM.out, HN.out⟩) (fun hHeld => ?_)
      clear hK K
      try simp only [Act.put, List.setIfInBounds_toArray, List.set_cons_zero, List.set_cons_succ]
      refine wpAnyH_ready (rs := [6]) (by kernel_rfl) (by simp) ?_
      refine AllReadyH.cons rfl (fun K hK => ?_) AllReadyH.nil
      refine step_store_part 30 _ _ _ 0 (.agg #[.int .i64 C.dg, .int .i64 C.tn, .string C.nm, .slice (some ⟨g, 0, none⟩) C.zs.length q, .int .i64 C.wd, .int .i64 lf, .int .i64 C.rt]) #[.int .i64 C.dg, .int .i64 C.tn, .string C.nm, .slice (some ⟨g, 0, none⟩) C.zs.length q, .int .i64 C.wd, .int .i64 lf, .int .i64 C.rt] (Blk.kp (zk0 HK) (by first | omega | (simp; omega)) HR2.out) rfl rfl rfl rfl rfl (by rfl) (by kernel_rfl) (by simp [Value.oneCell']) (by simp) ?_; intro wS hBS hkb; simp only [setL, List.setIfInBounds_toArray, List.set_cons_zero, List.set_cons_succ] at hBS; have hka := zka HK hkb; have hlSo := HS.out.lt; (try replace HR1 := zb hka hkb HR1); (try replace HM := zb hka hkb HM); (try replace HN := zb hka hkb HN); (try replace HO2 := zo hka hkb HO2); (try replace HU2 := zP hka hkb HU2); (try replace HV2 := zP hka hkb HV2); (try replace HS := Lib.hid (Src.kpg2 HS.out (by repeat (with_reducible first | exact Below.refl _ _ | refine Bel.alloc ?_ _ | refine Below.drew ?_ | refine Bel.drewN ?_ _)) hkb (by first | omega | (simp; omega)))); replace HR2 := Lib.hid hBS; replace HK := Lib.hid (Kp.own hkb (by first | omega | (simp; omega)) (Kp.trans HK.out hka)); have hszS := hkb.size_; have hsyS := hka.size_; (try simp only [World.size_alloc, World.size_drew, World.heap_drewN, World.size_setCell] at hszS hsyS); clear hBS hka hkb hlSo; have hlSS := HS.out.lt
      refine hK.out _ _ (⟨HM.out, HN.out⟩) (fun hHeld => ?_)
      clear hK K
      try simp only [Act.put, List.setIfInBounds_toArray, List.set_cons_zero, List.set_cons_succ]
      refine wpAnyH_take (i := 7) (v := (.slice G us.length cu)) rfl (by kernel_rfl) (by kernel_rfl) (by kernel_rfl) (fun _ _ _ h => h) (Or.inl ⟨by rfl, fun w _ => by simp [go_sem, execOp]⟩) hHeld ?_
      simp only [Act.put, List.getElem_toArray, List.getElem_cons_succ, List.getElem_cons_zero, List.setIfInBounds_toArray, List.set_cons_zero, List.set_cons_succ]
      refine wpAnyH_take (i := 8) (v := (.slice H vs.length cv)) rfl (by kernel_rfl) (by kernel_rfl) (by kernel_rfl) (fun _ _ _ h => h) (Or.inl ⟨by rfl, fun w _ => by simp [go_sem, execOp]⟩) hHeld ?_
      simp only [Act.put, List.getElem_toArray, List.getElem_cons_succ, List.getElem_cons_zero, List.setIfInBounds_toArray, List.set_cons_zero, List.set_cons_succ]
      refine wpAnyH_take (i := 9) (v := (.int .i64 ey)) rfl (by kernel_rfl) (by kernel_rfl) (by kernel_rfl) (fun _ _ _ h => h) (Or.inl ⟨by rfl, fun w _ => by simp [go_sem, execOp]⟩) hHeld ?_
      simp only [Act.put, List.getElem_toArray, List.getElem_cons_succ, List.getElem_cons_zero, List.setIfInBounds_toArray, List.set_cons_zero, List.set_cons_succ]
      refine wpAnyH_done (by kernel_rfl) ?_ _
      go_wp2
      exact bodyPost_ret (results_5 rfl (resF_cell HR1.out Tryz.underlying30 (by kernel_rfl) rfl) (resF_cell HR2.out Tryz.underlying30 (by kernel_rfl) rfl) (resF_tmp _ rfl) (resF_tmp _ rfl) (resF_tmp _ rfl)) rfl ⟨C, g, q, ({ C with lf := lf } : Ch), g, q, us, vs, G, H, cu, cv, ey, rfl, ⟨hn2, hm2, hn2, hm2, hu2, hv2⟩, HO2.out.ints, HO2.out.ints, HU2.out.prs, HV2.out.prs, Kp.toBel HK.out (by omega)⟩
open Go.RowKit
set_option linter.unusedVariables false
set_option linter.unusedSimpArgs false
theorem Own.take {w : World} {B b n c : Nat} {T : TypeId} {m : List Int} (h : Own w B T (.slice (some ⟨b, 0, none⟩) n c) m) (k : Nat) (hk : 0 < k) (hn : k ≤ m.length) : Own w B T (.slice (some ⟨b, 0, none⟩) (m.take k).length c) (m.take k) := by
  obtain ⟨A, c', e, hc, hm, _, hF⟩ := h.form
  injection e with e1 e2 e3
  subst e2 e3
  obtain ⟨g, cur, e4, hg, hB, hs, ht⟩ := hF (by omega)
  rw [e4] at e1
  injection e1 with e1
  injection e1 with e1
  subst e1
  refine Own.of_cells hB hs ?_ hg (by rw [List.length_take]; omega) hm
  rw [List.length_take, Nat.min_eq_left hn, List.map_take, ← ht, List.take_take, Nat.min_eq_left hn]
set_option maxRecDepth 20000 in
set_option maxHeartbeats 8000000 in
theorem DrawBestModuli_c (A : Option Addr) (c : Nat) (zs : List Int) (hz : zs.length ≤ 4096) (w : World) (hA : Byts w A zs) :
    Calls Tryz.prog 26 #[.slice A zs.length c] w fun e w' => ∃ (C : Ch) (g c : Nat) (ms : List Int) (g2 cm : Nat) (us vs : List (Int × Int)) (G H : Option Addr) (cu cv : Nat) (ey mo : Int), e = .returned (.tuple #[.agg #[.int .i64 C.dg, .int .i64 C.tn, .string C.nm, .slice (some ⟨g, 0, none⟩) C.zs.length c, .int .i64 C.wd, .int .i64 C.lf, .int .i64 C.rt], .slice (some ⟨g2, 0, none⟩) ms.length cm, .slice G us.length cu, .slice H vs.length cv, .int .i64 ey, .int .i64 mo]) ∧ (C.zs.length ≤ 27 ∧ C.nm.size ≤ 27 ∧ ms.length ≤ 9 ∧ us.length ≤ 13 ∧ vs.length ≤ 13) ∧ Ints w' (some ⟨g, 0, none⟩) C.zs ∧ Ints w' (some ⟨g2, 0, none⟩) ms ∧ Prs w' G us ∧ Prs w' H vs ∧ Below w.heap.size w w' := by
  have HA := Lib.hid hA
  have HB := Lib.hid (Below.refl w.heap.size w)
  have HR1 := Lib.hid (by have h := Blk.new w 30 #[.int .i64 0, .int .i64 0, .string ⟨#[]⟩, .slice none 0 0, .int .i64 0, .int .i64 0, .int .i64 0]; (try simp only [World.size_alloc] at h); exact h)
  replace HB := Lib.hid (Bel.alloc HB.out (.cells #[.int .i64 0, .int .i64 0, .string ⟨#[]⟩, .slice none 0 0, .int .i64 0, .int .i64 0, .int .i64 0] 30))
  clear hA
  go_enter Tryz.func26, Tryz.ntmps26
  go_wp2_with fail
  go_at_call 44; refine (l01From_c A c zs hz _ (Byts.step (by repeat (with_reducible first | exact Below.refl _ _ | refine Bel.alloc ?_ _)) HA.out)).mono ?_; rintro e w1 ⟨X, rfl, hX, hS, hb1⟩; replace HR1 := Lib.hid (Blk.step hb1 HR1.out); have HS := Lib.hid hS; have HK := Lib.hid (Kp.below (X := X) (a := w) hb1 (by repeat (with_reducible first | exact Kp.refl _ _ | refine Kp.alloc _ ?_ | refine Kp.drew ?_ | refine Kp.drewN _ ?_))); have hlX := hS.lt; have hsz1 := hb1.size; (try simp only [World.size_alloc] at hX hsz1); clear hS hb1
  clear HB
  have hAc : Byts w1 A zs := ⟨HS.out.rng, fun hn => by obtain ⟨b, o, e, hlt, hc⟩ := HS.out.cells hn; exact ⟨b, o, e, Nat.lt_trans hlt HS.out.lt, hc⟩⟩
  go_wp2_with fail
  go_at_call 78; refine (l26Draw_c A c zs hz _ hAc).mono ?_; rintro e w2 ⟨C, g, q, us, vs, G, H, cu, cv, ey, rfl, hn2, hm2, hu2, hv2, hO2, hU2, hV2, hb2⟩; replace HR1 := Lib.hid (Blk.step hb2 HR1.out); replace HS := Lib.hid (Src.step hb2 HS.out); replace HK := Lib.hid (Kp.below hb2 HK.out); have hsz2 := hb2.size; (try simp only [World.size_alloc] at hsz2); clear hb2; have hlS2 := HS.out.lt
  clear hAc
  obtain ⟨hq2, hr2⟩ := World.ownsRow.lt hO2 g rfl
  have hGHU2 : ∀ b, (Value.slice G us.length cu).ownBlock = some b → b < w2.heap.size := fun b hb => (World.ownsRow.lt hU2 b hb).2
  have hGHV2 : ∀ b, (Value.slice H vs.length cv).ownBlock = some b → b < w2.heap.size := fun b hb => (World.ownsRow.lt hV2 b hb).2
  have HO2 := Lib.hid hO2
  clear hO2
  have HU2 := Lib.hid hU2
  clear hU2
  have HV2 := Lib.hid hV2
  clear hV2
  have HM := Lib.hid (Blk.new w2 30 #[.int .i64 C.dg, .int .i64 C.tn, .string C.nm, .slice (some ⟨g, 0, none⟩) C.zs.length q, .int .i64 C.wd, .int .i64 C.lf, .int .i64 C.rt])
  replace HR1 := Lib.hid (Blk.alloc (.cells #[.int .i64 C.dg, .int .i64 C.tn, .string C.nm, .slice (some ⟨g, 0, none⟩) C.zs.length q, .int .i64 C.wd, .int .i64 C.lf, .int .i64 C.rt] 30) HR1.out)
  replace HO2 := Lib.hid (Own.alloc (.cells #[.int .i64 C.dg, .int .i64 C.tn, .string C.nm, .slice (some ⟨g, 0, none⟩) C.zs.length q, .int .i64 C.wd, .int .i64 C.lf, .int .i64 C.rt] 30) HO2.out)
  replace HU2 := Lib.hid (OwnP.alloc (.cells #[.int .i64 C.dg, .int .i64 C.tn, .string C.nm, .slice (some ⟨g, 0, none⟩) C.zs.length q, .int .i64 C.wd, .int .i64 C.lf, .int .i64 C.rt] 30) HU2.out)
  replace HV2 := Lib.hid (OwnP.alloc (.cells #[.int .i64 C.dg, .int .i64 C.tn, .string C.nm, .slice (some ⟨g, 0, none⟩) C.zs.length q, .int .i64 C.wd, .int .i64 C.lf, .int .i64 C.rt] 30) HV2.out)
  replace HS := Lib.hid (Src.alloc (.cells #[.int .i64 C.dg, .int .i64 C.tn, .string C.nm, .slice (some ⟨g, 0, none⟩) C.zs.length q, .int .i64 C.wd, .int .i64 C.lf, .int .i64 C.rt] 30) HS.out)
  replace HK := Lib.hid (Kp.alloc (.cells #[.int .i64 C.dg, .int .i64 C.tn, .string C.nm, .slice (some ⟨g, 0, none⟩) C.zs.length q, .int .i64 C.wd, .int .i64 C.lf, .int .i64 C.rt] 30) HK.out)
  have hlM := HM.out.lt
  replace HR1 := Lib.hid (Blk.alloc (.cells #[] 2) HR1.out)
  replace HM := Lib.hid (Blk.alloc (.cells #[] 2) HM.out)
  replace HO2 := Lib.hid (Own.alloc (.cells #[] 2) HO2.out)
  replace HU2 := Lib.hid (OwnP.alloc (.cells #[] 2) HU2.out)
  replace HV2 := Lib.hid (OwnP.alloc (.cells #[] 2) HV2.out)
  replace HS := Lib.hid (Src.alloc (.cells #[] 2) HS.out)
  replace HK := Lib.hid (Kp.alloc (.cells #[] 2) HK.out)
  have HO : Hid (Own ((w2.alloc (.cells #[.int .i64 C.dg, .int .i64 C.tn, .string C.nm, .slice (some ⟨g, 0, none⟩) C.zs.length q, .int .i64 C.wd, .int .i64 C.lf, .int .i64 C.rt] 30)).alloc (.cells #[] 2)) (w2.heap.size + 1) 2 (.slice (some ⟨w2.heap.size + 1, 0, none⟩) 0 0) []) := Lib.hid (by have h := Own.new (w2.alloc (.cells #[.int .i64 C.dg, .int .i64 C.tn, .string C.nm, .slice (some ⟨g, 0, none⟩) C.zs.length q, .int .i64 C.wd, .int .i64 C.lf, .int .i64 C.rt] 30)) (w2.heap.size + 1) 2 (by simp); (try simp only [World.size_alloc] at h); exact h)
  go_wp2_with fail
  go_at_call 46; refine (l01Next_c X A zs _ (by omega) _ (zsr HS)).mono ?_; rintro e w3 ⟨x3, rfl, hx3, hy3, hd3⟩; (try rw [Int.max_eq_left (by omega)] at hy3); have hkb := hd3.kp; have hka := zka HK hkb; have hlS3 := HS.out.lt; (try replace HR1 := zb hka hkb HR1); (try replace HM := zb hka hkb HM); (try replace HO2 := zo hka hkb HO2); (try replace HU2 := zP hka hkb HU2); (try replace HV2 := zP hka hkb HV2); (try replace HO := zO hka hkb HO); replace HK := zt HK hka hkb; have hsz3 := hkb.size_; have hsy3 := hka.size_; (try simp only [World.size_alloc, World.size_drew, World.heap_drewN, World.size_setCell] at hsz3 hsy3); replace HS := Lib.hid hd3.src; clear hka hkb hd3 hlS3; have hlS3 := HS.out.lt
  obtain ⟨k0, rfl⟩ : ∃ j : Nat, x3 = j := ⟨x3.toNat, by omega⟩
  go_wp2
  go_loopw [13, 14] (fun l n wr => ∃ (k : Nat) (m : List Int) (g3 c3 : Nat), Hid (m.length + k ≤ 4) ∧ n = .int .i64 k ∧ l = .slice (some ⟨g3, 0, none⟩) m.length c3 ∧ w2.heap.size + 1 ≤ g3 ∧ Hid (Src wr X A zs) ∧ Hid (Kp X w wr) ∧ Hid (Blk wr w.heap.size 30 #[.int .i64 0, .int .i64 0, .string ⟨#[]⟩, .slice none 0 0, .int .i64 0, .int .i64 0, .int .i64 0]) ∧ Hid (Blk wr w2.heap.size 30 #[.int .i64 C.dg, .int .i64 C.tn, .string C.nm, .slice (some ⟨g, 0, none⟩) C.zs.length q, .int .i64 C.wd, .int .i64 C.lf, .int .i64 C.rt]) ∧ Hid (Own wr w1.heap.size 2 (.slice (some ⟨g, 0, none⟩) C.zs.length q) C.zs) ∧ Hid (OwnP wr w1.heap.size 25 (.slice G us.length cu) us) ∧ Hid (OwnP wr w1.heap.size 25 (.slice H vs.length cv) vs) ∧ Hid (Own wr (w2.heap.size + 1) 2 (.slice (some ⟨g3, 0, none⟩) m.length c3) m)) (fun _ n _ => (intOf n).toNat)
  case atStart => exact ⟨k0, [], w2.heap.size + 1, 0, Lib.hid (by simp; omega), rfl, rfl, Nat.le_refl _, HS, HK, HR1, HM, HO2, HU2, HV2, HO⟩
  case round =>
    clear HS HK HR1 HM HO2 HU2 HV2 HO hlM
    obtain ⟨k, m, g3, c3, HL, rfl, rfl, hg3, HS, HK, HR1, HM, HO2, HU2, HV2, HO⟩ := hrel
    have hlS := HS.out.lt
    have hlM := HM.out.lt
    have hlO := (World.ownsRow.lt HO.out g3 rfl).2
    by_cases hk0 : 0 < k
    · have hml : m.length ≤ 9 := by have := HL.out; omega
      have hk4 : k ≤ 4 := by have := HL.out; omega
      go_wp2_with fail
      go_at_call 46; refine (l01Next_c X A zs _ (by omega) _ (zsr HS)).mono ?_; rintro e w4 ⟨x4, rfl, hx4, hy4, hd4⟩; (try rw [Int.max_eq_left (by omega)] at hy4); have hkb := hd4.kp; have hka := zka HK hkb; have hlS4 := HS.out.lt; (try replace HR1 := zb hka hkb HR1); (try replace HM := zb hka hkb HM); (try replace HO2 := zo hka hkb HO2); (try replace HU2 := zP hka hkb HU2); (try replace HV2 := zP hka hkb HV2); (try replace HO := zo hka hkb HO); replace HK := zt HK hka hkb; have hsz4 := hkb.size_; have hsy4 := hka.size_; (try simp only [World.size_alloc, World.size_drew, World.heap_drewN, World.size_setCell] at hsz4 hsy4); replace HS := Lib.hid hd4.src; clear hka hkb hd4 hlS4; have hlS4 := HS.out.lt
      have hlO1 := (World.ownsRow.lt HO.out g3 rfl).2
      go_wp2_with (first | (at_builtin; refine wpList_app1K rfl _ _ 26 rfl (w2.heap.size + 1) 2 Tryz.underlying26 info64 (by omega) _ m rfl (World.ownsRow.alloc HO.out _) w4.heap.size _ rfl (by simp [go_sem]; rfl) (by omega) (by simp; omega) ?_; intro g9 c9 w9 hO9 hk9 hg9; have hkb : Kp g3 _ w9 := hk9; have hka := Kp.ka HK.out hkb (Kp.alloc _ (Kp.refl _ _)); replace HR1 := Lib.hid (Blk.kp2 hka hkb (by omega) (by omega) HR1.out); replace HM := Lib.hid (Blk.kp2 hka hkb (by omega) (by omega) HM.out); replace HO2 := Lib.hid (Own.kp3 hka hkb (by omega) (by omega) HO2.out); replace HU2 := Lib.hid (OwnP.kept (OwnP.kp hka (by omega) HU2.out) hkb (own_ne hGHU2 (by omega))); replace HV2 := Lib.hid (OwnP.kept (OwnP.kp hka (by omega) HV2.out) hkb (own_ne hGHV2 (by omega))); replace HS := Lib.hid (Src.kpg2 HS.out (Bel.alloc (Below.refl _ _) _) hkb (by omega)); replace HK := Lib.hid (Kp.own hkb (by omega) (Kp.trans HK.out hka)); have hgb := (World.ownsRow.lt hO9 g9 rfl); have hs9 := hkb.size_; simp only [World.size_alloc] at hs9; clear hka hkb hk9 HO))
      have HO := Lib.hid hO9
      clear hO9
      go_roundw
      case rel => exact ⟨k - 1, m ++ [500 + 100 * x4], g9, c9, Lib.hid (by have := HL.out; simp; omega), by go_num, by simp, by omega, HS, HK, HR1, HM, HO2, HU2, HV2, Lib.hid (by have h := HO.out; rw [List.length_append]; exact h)⟩
      case measure => simp [intOf]; omega
    have hml : m.length ≤ 4 := by have := HL.out; omega
    clear HL
    obtain rfl : k = 0 := by omega
    go_wp2_with fail
    go_at_call 46; refine (l01Next_c X A zs _ (by omega) _ (zsr HS)).mono ?_; rintro e w5 ⟨x5, rfl, hx5, hy5, hd5⟩; (try rw [Int.max_eq_left (by omega)] at hy5); have hkb := hd5.kp; have hka := zka HK hkb; have hlS5 := HS.out.lt; (try replace HR1 := zb hka hkb HR1); (try replace HM := zb hka hkb HM); (try replace HO2 := zo hka hkb HO2); (try replace HU2 := zP hka hkb HU2); (try replace HV2 := zP hka hkb HV2); (try replace HO := zo hka hkb HO); replace HK := zt HK hka hkb; have hsz5 := hkb.size_; have hsy5 := hka.size_; (try simp only [World.size_alloc, World.size_drew, World.heap_drewN, World.size_setCell] at hsz5 hsy5); replace HS := Lib.hid hd5.src; clear hka hkb hd5 hlS5; have hlS5 := HS.out.lt
    have hlO1 := (World.ownsRow.lt HO.out g3 rfl).2
    by_cases h5 : x5 = 0
    all_goals first
      | (obtain rfl : x5 = 0 := h5
         go_wp2_with (first | (at_builtin; refine wpList_app1K rfl _ _ 26 rfl (w2.heap.size + 1) 2 Tryz.underlying26 info64 (by omega) _ m rfl (World.ownsRow.alloc HO.out _) w5.heap.size _ rfl (by simp [go_sem]; rfl) (by omega) (by simp; omega) ?_; intro g9 c9 w9 hO9 hk9 hg9; have hkb : Kp g3 _ w9 := hk9; have hka := Kp.ka HK.out hkb (Kp.alloc _ (Kp.refl _ _)); replace HR1 := Lib.hid (Blk.kp2 hka hkb (by omega) (by omega) HR1.out); replace HM := Lib.hid (Blk.kp2 hka hkb (by omega) (by omega) HM.out); replace HO2 := Lib.hid (Own.kp3 hka hkb (by omega) (by omega) HO2.out); replace HU2 := Lib.hid (OwnP.kept (OwnP.kp hka (by omega) HU2.out) hkb (own_ne hGHU2 (by omega))); replace HV2 := Lib.hid (OwnP.kept (OwnP.kp hka (by omega) HV2.out) hkb (own_ne hGHV2 (by omega))); replace HS := Lib.hid (Src.kpg2 HS.out (Bel.alloc (Below.refl _ _) _) hkb (by omega)); replace HK := Lib.hid (Kp.own hkb (by omega) (Kp.trans HK.out hka)); have hgb := (World.ownsRow.lt hO9 g9 rfl); have hs9 := hkb.size_; simp only [World.size_alloc] at hs9; clear hka hkb hk9 HO))
         have HO := Lib.hid hO9
         clear hO9
         have HVx : Hid (∃ g2 cm, Value.slice (some ⟨g9, 0, none⟩) (m.length + 1) c9 = .slice (some ⟨g2, 0, none⟩) (m ++ [99]).length cm ∧ (m ++ [99]).length ≤ 9) := Lib.hid ⟨g9, c9, by first | rfl | (simp; done), by first | omega | (simp; done) | (simp; omega)⟩
         generalize Value.slice (some ⟨g9, 0, none⟩) (m.length + 1) c9 = V at HO HVx ⊢
         generalize (m ++ [99]) = ms at HO HVx
         obtain ⟨wz, rfl⟩ : ∃ U : World, U = w9 := ⟨_, rfl⟩)
      | (by_cases h6 : x5 = 1
         all_goals first
           | (obtain rfl : x5 = 1 := h6
              go_wp2_with fail
              have HN := Lib.hid (Blk.new w5 2 #[.int .i64 100, .int .i64 200, .int .i64 300, .int .i64 400, .int .i64 500, .int .i64 600, .int .i64 700, .int .i64 800, .int .i64 900])
              replace HR1 := Lib.hid (Blk.alloc (.cells #[.int .i64 100, .int .i64 200, .int .i64 300, .int .i64 400, .int .i64 500, .int .i64 600, .int .i64 700, .int .i64 800, .int .i64 900] 2) HR1.out)
              replace HM := Lib.hid (Blk.alloc (.cells #[.int .i64 100, .int .i64 200, .int .i64 300, .int .i64 400, .int .i64 500, .int .i64 600, .int .i64 700, .int .i64 800, .int .i64 900] 2) HM.out)
              replace HO2 := Lib.hid (Own.alloc (.cells #[.int .i64 100, .int .i64 200, .int .i64 300, .int .i64 400, .int .i64 500, .int .i64 600, .int .i64 700, .int .i64 800, .int .i64 900] 2) HO2.out)
              replace HU2 := Lib.hid (OwnP.alloc (.cells #[.int .i64 100, .int .i64 200, .int .i64 300, .int .i64 400, .int .i64 500, .int .i64 600, .int .i64 700, .int .i64 800, .int .i64 900] 2) HU2.out)
              replace HV2 := Lib.hid (OwnP.alloc (.cells #[.int .i64 100, .int .i64 200, .int .i64 300, .int .i64 400, .int .i64 500, .int .i64 600, .int .i64 700, .int .i64 800, .int .i64 900] 2) HV2.out)
              replace HS := Lib.hid (Src.alloc (.cells #[.int .i64 100, .int .i64 200, .int .i64 300, .int .i64 400, .int .i64 500, .int .i64 600, .int .i64 700, .int .i64 800, .int .i64 900] 2) HS.out)
              replace HK := Lib.hid (Kp.alloc (.cells #[.int .i64 100, .int .i64 200, .int .i64 300, .int .i64 400, .int .i64 500, .int .i64 600, .int .i64 700, .int .i64 800, .int .i64 900] 2) HK.out)
              go_at_call 46; refine (l01Next_c X A zs _ (by omega) _ (zsr HS)).mono ?_; rintro e w6 ⟨x6, rfl, hx6, hy6, hd6⟩; (try rw [Int.max_eq_left (by omega)] at hy6); have hkb := hd6.kp; have hka := zka HK hkb; have hlS6 := HS.out.lt; (try replace HN := zb hka hkb HN); (try replace HR1 := zb hka hkb HR1); (try replace HM := zb hka hkb HM); (try replace HO2 := zo hka hkb HO2); (try replace HU2 := zP hka hkb HU2); (try replace HV2 := zP hka hkb HV2); replace HK := zt HK hka hkb; have hsz6 := hkb.size_; have hsy6 := hka.size_; (try simp only [World.size_alloc, World.size_drew, World.heap_drewN, World.size_setCell] at hsz6 hsy6); replace HS := Lib.hid hd6.src; clear hka hkb hd6 hlS6; have hlS6 := HS.out.lt
              have HO9 : Hid (Own w6 (w2.heap.size + 1) 2 (.slice (some ⟨w5.heap.size, 0, none⟩) 9 9) ([100, 200, 300, 400, 500, 600, 700, 800, 900] : List Int)) := Lib.hid (Own.of_blk (zs := ([100, 200, 300, 400, 500, 600, 700, 800, 900] : List Int)) HN.out (by omega) (by unfold maxLen; simp))
              clear HN
              by_cases h7 : x6 = 0
              all_goals first
                | (obtain rfl : x6 = 0 := h7
                   replace HO := Lib.hid (show Own w6 (w2.heap.size + 1) 2 (.slice (some ⟨w5.heap.size, 0, none⟩) 8 9) ([100, 200, 300, 400, 500, 600, 700, 800] : List Int) from HO9.out.take 8 (by omega) (by simp))
                   clear HO9
                   go_upto_region 13 with (fail)
                   have HVx : Hid (∃ g2 cm, Value.slice (some ⟨w5.heap.size, 0, none⟩) 8 9 = .slice (some ⟨g2, 0, none⟩) ([100, 200, 300, 400, 500, 600, 700, 800] : List Int).length cm ∧ ([100, 200, 300, 400, 500, 600, 700, 800] : List Int).length ≤ 9) := Lib.hid ⟨w5.heap.size, 9, by first | rfl | (simp; done), by first | omega | (simp; done) | (simp; omega)⟩
                   generalize Value.slice (some ⟨w5.heap.size, 0, none⟩) 8 9 = V at HO HVx ⊢
                   generalize ([100, 200, 300, 400, 500, 600, 700, 800] : List Int) = ms at HO HVx
                   obtain ⟨wz, rfl⟩ : ∃ U : World, U = w6 := ⟨_, rfl⟩)
                | (obtain rfl : x6 = 1 := by omega
                   replace HO := HO9
                   clear HO9
                   go_upto_region 13 with (fail)
                   have HVx : Hid (∃ g2 cm, Value.slice (some ⟨w5.heap.size, 0, none⟩) 9 9 = .slice (some ⟨g2, 0, none⟩) ([100, 200, 300, 400, 500, 600, 700, 800, 900] : List Int).length cm ∧ ([100, 200, 300, 400, 500, 600, 700, 800, 900] : List Int).length ≤ 9) := Lib.hid ⟨w5.heap.size, 9, by first | rfl | (simp; done), by first | omega | (simp; done) | (simp; omega)⟩
                   generalize Value.slice (some ⟨w5.heap.size, 0, none⟩) 9 9 = V at HO HVx ⊢
                   generalize ([100, 200, 300, 400, 500, 600, 700, 800, 900] : List Int) = ms at HO HVx
                   obtain ⟨wz, rfl⟩ : ∃ U : World, U = w6 := ⟨_, rfl⟩))
           | (go_upto_region 13 with (fail)
              have HVx : Hid (∃ g2 cm, Value.slice (some ⟨g3, 0, none⟩) m.length c3 = .slice (some ⟨g2, 0, none⟩) m.length cm ∧ m.length ≤ 9) := Lib.hid ⟨g3, c3, by first | rfl | (simp; done), by first | omega | (simp; done) | (simp; omega)⟩
              generalize Value.slice (some ⟨g3, 0, none⟩) m.length c3 = V at HO HVx ⊢
              generalize m = ms at HO HVx
              obtain ⟨wz, rfl⟩ : ∃ U : World, U = w5 := ⟨_, rfl⟩))
    all_goals
      have hlM9 := HM.out.lt
      have hlZ := hlM9
      have hlS9 := HS.out.lt
      go_upto_region 13 with (fail)
      refine wp_region_held_drew (S := fun W => Blk W w2.heap.size 30 #[.int .i64 C.dg, .int .i64 C.tn, .string C.nm, .slice (some ⟨g, 0, none⟩) C.zs.length q, .int .i64 C.wd, .int .i64 C.lf, .int .i64 C.rt] ∧ True) (by kernel_rfl) (⟨HM.out.drew, trivial⟩) (fun hHeld => ?_)
      replace HR1 := Lib.hid HR1.out.drew
      replace HM := Lib.hid HM.out.drew
      replace HO2 := Lib.hid HO2.out.drew
      replace HU2 := Lib.hid HU2.out.drew
      replace HV2 := Lib.hid HV2.out.drew
      replace HO := Lib.hid HO.out.drew
      replace HS := Lib.hid HS.out.drew
      replace HK := Lib.hid HK.out.drew
      have hsd : wz.drew.heap.size = wz.heap.size := rfl
      rw [← hsd] at hlZ
      clear hsd
      generalize wz.drew = v7 at HR1 HM HO2 HU2 HV2 HO HS HK hHeld hlZ ⊢
      refine wpAnyH_take (i := 0) (v := .agg #[.int .i64 C.dg, .int .i64 C.tn, .string C.nm, .slice (some ⟨g, 0, none⟩) C.zs.length q, .int .i64 C.wd, .int .i64 C.lf, .int .i64 C.rt]) rfl (by kernel_rfl) (by kernel_rfl) (by kernel_rfl) (fun _ _ _ h => h) (yieldsIf_load_blk 30 _ (w2.heap.size) (fun _ h => h.1) Tryz.underlying30 (by kernel_rfl) (by rfl) rfl rfl) hHeld ?_
      simp only [Act.put, List.getElem_toArray, List.getElem_cons_succ, List.getElem_cons_zero, List.setIfInBounds_toArray, List.set_cons_zero, List.set_cons_succ]
      refine wpAnyH_take (i := 1) (v := V) rfl (by kernel_rfl) (by kernel_rfl) (by kernel_rfl) (fun _ _ _ h => h) (Or.inl ⟨by rfl, fun w _ => by simp [go_sem, execOp]⟩) hHeld ?_
      simp only [Act.put, List.getElem_toArray, List.getElem_cons_succ, List.getElem_cons_zero, List.setIfInBounds_toArray, List.set_cons_zero, List.set_cons_succ]
      refine wpAnyH_take (i := 2) (v := (.slice G us.length cu)) rfl (by kernel_rfl) (by kernel_rfl) (by kernel_rfl) (fun _ _ _ h => h) (Or.inl ⟨by rfl, fun w _ => by simp [go_sem, execOp]⟩) hHeld ?_
      simp only [Act.put, List.getElem_toArray, List.getElem_cons_succ, List.getElem_cons_zero, List.setIfInBounds_toArray, List.set_cons_zero, List.set_cons_succ]
      refine wpAnyH_take (i := 3) (v := (.slice H vs.length cv)) rfl (by kernel_rfl) (by kernel_rfl) (by kernel_rfl) (fun _ _ _ h => h) (Or.inl ⟨by rfl, fun w _ => by simp [go_sem, execOp]⟩) hHeld ?_
      simp only [Act.put, List.getElem_toArray, List.getElem_cons_succ, List.getElem_cons_zero, List.setIfInBounds_toArray, List.set_cons_zero, List.set_cons_succ]
      refine wpAnyH_take (i := 4) (v := (.int .i64 ey)) rfl (by kernel_rfl) (by kernel_rfl) (by kernel_rfl) (fun _ _ _ h => h) (Or.inl ⟨by rfl, fun w _ => by simp [go_sem, execOp]⟩) hHeld ?_
      simp only [Act.put, List.getElem_toArray, List.getElem_cons_succ, List.getElem_cons_zero, List.setIfInBounds_toArray, List.set_cons_zero, List.set_cons_succ]
      refine wpAnyH_take (i := 5) (v := (.pointer (some ⟨X, 0, none⟩))) rfl (by kernel_rfl) (by kernel_rfl) (by kernel_rfl) (fun _ _ _ h => h) (Or.inl ⟨by rfl, fun w _ => by simp [go_sem, execOp]⟩) hHeld ?_
      simp only [Act.put, List.getElem_toArray, List.getElem_cons_succ, List.getElem_cons_zero, List.setIfInBounds_toArray, List.set_cons_zero, List.set_cons_succ]
      refine wpAnyH_ready (rs := [6]) (by kernel_rfl) (by simp) ?_
      refine AllReadyH.cons rfl (fun K hK => ?_) (AllReadyH.nil)
      go_simp
      have HP := Lib.hid (Blk.new v7 2 #[.int .i64 20000, .int .i64 40000, .int .i64 5000, .int .i64 100000, .int .i64 100001, .int .i64 0])
      replace HR1 := Lib.hid (Blk.alloc (.cells #[.int .i64 20000, .int .i64 40000, .int .i64 5000, .int .i64 100000, .int .i64 100001, .int .i64 0] 2) HR1.out)
      replace HM := Lib.hid (Blk.alloc (.cells #[.int .i64 20000, .int .i64 40000, .int .i64 5000, .int .i64 100000, .int .i64 100001, .int .i64 0] 2) HM.out)
      replace HO2 := Lib.hid (Own.alloc (.cells #[.int .i64 20000, .int .i64 40000, .int .i64 5000, .int .i64 100000, .int .i64 100001, .int .i64 0] 2) HO2.out)
      replace HU2 := Lib.hid (OwnP.alloc (.cells #[.int .i64 20000, .int .i64 40000, .int .i64 5000, .int .i64 100000, .int .i64 100001, .int .i64 0] 2) HU2.out)
      replace HV2 := Lib.hid (OwnP.alloc (.cells #[.int .i64 20000, .int .i64 40000, .int .i64 5000, .int .i64 100000, .int .i64 100001, .int .i64 0] 2) HV2.out)
      replace HO := Lib.hid (Own.alloc (.cells #[.int .i64 20000, .int .i64 40000, .int .i64 5000, .int .i64 100000, .int .i64 100001, .int .i64 0] 2) HO.out)
      replace HS := Lib.hid (Src.alloc (.cells #[.int .i64 20000, .int .i64 40000, .int .i64 5000, .int .i64 100000, .int .i64 100001, .int .i64 0] 2) HS.out)
      replace HK := Lib.hid (Kp.alloc (.cells #[.int .i64 20000, .int .i64 40000, .int .i64 5000, .int .i64 100000, .int .i64 100001, .int .i64 0] 2) HK.out)
      refine hK.out _ _ (⟨HM.out, trivial⟩) (fun hHeld => ?_)
      clear hK K
      try simp only [Act.put, List.setIfInBounds_toArray, List.set_cons_zero, List.set_cons_succ]
      refine wpAnyH_ready (rs := [7]) (by kernel_rfl) (by simp) ?_
      refine AllReadyH.cons rfl (fun K hK => ?_) AllReadyH.nil
      go_simp
      go_at_call 79; refine (l01Pick_c X A zs _ _ 2 _ _ (zsr HS) (by repeat (first | exact Blk.new _ _ _ | refine Blk.alloc _ ?_)) (by rfl) (by omega) (by omega) (by simp [isI]) (Nat.ne_of_gt (by have := HS.out.lt; first | omega | (simp; omega)))).mono ?_; rintro e w8 ⟨x8, i8, hi8, hp8, rfl, hd8⟩; have HP8 := Lib.hid hp8; clear hp8; have hkb := hd8.kp; have hka := zka HK hkb; have hlS8 := HS.out.lt; (try replace HR1 := zb hka hkb HR1); (try replace HM := zb hka hkb HM); (try replace HO2 := zo hka hkb HO2); (try replace HU2 := zP hka hkb HU2); (try replace HV2 := zP hka hkb HV2); (try replace HO := zO hka hkb HO); replace HK := zt HK hka hkb; have hsz8 := hkb.size_; have hsy8 := hka.size_; (try simp only [World.size_alloc, World.size_drew, World.heap_drewN, World.size_setCell] at hsz8 hsy8); replace HS := Lib.hid hd8.src; clear hka hkb hd8 hlS8; have hlS8 := HS.out.lt
      go_wp2_with fail
      refine hK.out _ _ (⟨HM.out, trivial⟩) (fun hHeld => ?_)
      clear hK K
      try simp only [Act.put, List.setIfInBounds_toArray, List.set_cons_zero, List.set_cons_succ]
      refine wpAnyH_ready (rs := [8]) (by kernel_rfl) (by simp) ?_
      refine AllReadyH.cons rfl (fun K hK => ?_) AllReadyH.nil
      refine step_store_part 30 _ _ _ 0 (.agg #[.int .i64 C.dg, .int .i64 C.tn, .string C.nm, .slice (some ⟨g, 0, none⟩) C.zs.length q, .int .i64 C.wd, .int .i64 C.lf, .int .i64 C.rt]) #[.int .i64 C.dg, .int .i64 C.tn, .string C.nm, .slice (some ⟨g, 0, none⟩) C.zs.length q, .int .i64 C.wd, .int .i64 C.lf, .int .i64 C.rt] (Blk.kp (zk0 HK) (by first | omega | (simp; omega)) HR1.out) rfl rfl rfl rfl rfl (by rfl) (by kernel_rfl) (by simp [Value.oneCell']) (by simp) ?_; intro wS hBS hkb; simp only [setL, List.setIfInBounds_toArray, List.set_cons_zero, List.set_cons_succ] at hBS; have hka := zka HK hkb; have hlSo := HS.out.lt; (try replace HM := zb hka hkb HM); (try replace HO2 := zo hka hkb HO2); (try replace HU2 := zP hka hkb HU2); (try replace HV2 := zP hka hkb HV2); (try replace HO := zO hka hkb HO); (try replace HS := Lib.hid (Src.kpg2 HS.out (by repeat (with_reducible first | exact Below.refl _ _ | refine Bel.alloc ?_ _ | refine Below.drew ?_ | refine Bel.drewN ?_ _)) hkb (by first | omega | (simp; omega)))); replace HR1 := Lib.hid hBS; replace HK := Lib.hid (Kp.own hkb (by first | omega | (simp; omega)) (Kp.trans HK.out hka)); have hszS := hkb.size_; have hsyS := hka.size_; (try simp only [World.size_alloc, World.size_drew, World.heap_drewN, World.size_setCell] at hszS hsyS); clear hBS hka hkb hlSo; have hlSS := HS.out.lt
      refine hK.out _ _ (⟨HM.out, trivial⟩) (fun hHeld => ?_)
      clear hK K
      try simp only [Act.put, List.setIfInBounds_toArray, List.set_cons_zero, List.set_cons_succ]
      refine wpAnyH_take (i := 9) (v := V) rfl (by kernel_rfl) (by kernel_rfl) (by kernel_rfl) (fun _ _ _ h => h) (Or.inl ⟨by rfl, fun w _ => by simp [go_sem, execOp]⟩) hHeld ?_
      simp only [Act.put, List.getElem_toArray, List.getElem_cons_succ, List.getElem_cons_zero, List.setIfInBounds_toArray, List.set_cons_zero, List.set_cons_succ]
      refine wpAnyH_take (i := 10) (v := (.slice G us.length cu)) rfl (by kernel_rfl) (by kernel_rfl) (by kernel_rfl) (fun _ _ _ h => h) (Or.inl ⟨by rfl, fun w _ => by simp [go_sem, execOp]⟩) hHeld ?_
      simp only [Act.put, List.getElem_toArray, List.getElem_cons_succ, List.getElem_cons_zero, List.setIfInBounds_toArray, List.set_cons_zero, List.set_cons_succ]
      refine wpAnyH_take (i := 11) (v := (.slice H vs.length cv)) rfl (by kernel_rfl) (by kernel_rfl) (by kernel_rfl) (fun _ _ _ h => h) (Or.inl ⟨by rfl, fun w _ => by simp [go_sem, execOp]⟩) hHeld ?_
      simp only [Act.put, List.getElem_toArray, List.getElem_cons_succ, List.getElem_cons_zero, List.setIfInBounds_toArray, List.set_cons_zero, List.set_cons_succ]
      refine wpAnyH_take (i := 12) (v := (.int .i64 ey)) rfl (by kernel_rfl) (by kernel_rfl) (by kernel_rfl) (fun _ _ _ h => h) (Or.inl ⟨by rfl, fun w _ => by simp [go_sem, execOp]⟩) hHeld ?_
      simp only [Act.put, List.getElem_toArray, List.getElem_cons_succ, List.getElem_cons_zero, List.setIfInBounds_toArray, List.set_cons_zero, List.set_cons_succ]
      refine wpAnyH_take (i := 13) (v := (.int .i64 x8)) rfl (by kernel_rfl) (by kernel_rfl) (by kernel_rfl) (fun _ _ _ h => h) (Or.inl ⟨by rfl, fun w _ => by simp [go_sem, execOp]⟩) hHeld ?_
      simp only [Act.put, List.getElem_toArray, List.getElem_cons_succ, List.getElem_cons_zero, List.setIfInBounds_toArray, List.set_cons_zero, List.set_cons_succ]
      refine wpAnyH_done (by kernel_rfl) ?_ _
      go_wp2
      obtain ⟨g2, cm, rfl, hm9⟩ := HVx.out
      exact bodyPost_ret (results_6 rfl (resF_cell HR1.out Tryz.underlying30 (by kernel_rfl) rfl) (resF_tmp _ rfl) (resF_tmp _ rfl) (resF_tmp _ rfl) (resF_tmp _ rfl) (resF_tmp _ rfl)) rfl ⟨C, g, q, ms, g2, cm, us, vs, G, H, cu, cv, ey, x8, rfl, ⟨hn2, hm2, hm9, hu2, hv2⟩, HO2.out.ints, HO.out.ints, HU2.out.prs, HV2.out.prs, Kp.toBel HK.out (by omega)⟩
end Go.Proofs.YtpmcgicopogbhaaGreat
