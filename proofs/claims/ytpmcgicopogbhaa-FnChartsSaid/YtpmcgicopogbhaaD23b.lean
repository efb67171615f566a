/- Draws: a chart, a scale and a figure. Conditions: as stated at each contract. -/
import Derived.Test.YtpmcgicopogbhaaProg
import Derived.Test.YtpmcgicopogbhaaBase
import Derived.Test.YtpmcgicopogbhaaRw
import Derived.Test.YtpmcgicopogbhaaRg
import Derived.Test.YtpmcgicopogbhaaL01
import Derived.Test.YtpmcgicopogbhaaCp
import Derived.Test.YtpmcgicopogbhaaCm
import Derived.Test.YtpmcgicopogbhaaL18
import Derived.Test.YtpmcgicopogbhaaD00
import Derived.Test.YtpmcgicopogbhaaD01
import Derived.Test.YtpmcgicopogbhaaD02
import Derived.Test.YtpmcgicopogbhaaD03
import Derived.Test.YtpmcgicopogbhaaD18
import Derived.Test.YtpmcgicopogbhaaD23
import Derived.WalkKit
import Derived.WalkSpells
import Derived.WalkLawsBesides
import Derived.Lib.Hide
import Derived.Deep.QuietTactic
import Derived.BigQuiet
import Derived.Deep.Draws
import Derived.Deep.RegionHeld3
import Derived.Deep.Cut
namespace Go.Proofs.Ytpmcgicopogbhaa
open Go.RowKit
set_option linter.unusedVariables false
set_option linter.unusedSimpArgs false
/-- A chart, a scale and a figure are drawn. -/
def CsQ (w : World) (e : Ending) (w' : World) : Prop := ∃ (C : Ch) (g c : Nat) (sc fd ft : Int), e = .returned (.tuple #[.agg #[.int .i64 C.dg, .int .i64 C.tn, .string C.nm, .slice (some ⟨g, 0, none⟩) C.zs.length c, .int .i64 C.wd, .int .i64 C.lf, .int .i64 C.rt], .int .i64 sc, .agg #[.int .i64 fd, .int .i64 ft]]) ∧ C.zs.length ≤ 27 ∧ C.nm.size ≤ 27 ∧ Own w' w.heap.size 2 (.slice (some ⟨g, 0, none⟩) C.zs.length c) C.zs ∧ Below w.heap.size w w'
set_option maxRecDepth 20000 in
set_option maxHeartbeats 2000000 in
theorem DrawChartPlace_c (A : Option Addr) (c : Nat) (zs : List Int) (hz : zs.length ≤ 4096) (w : World) (hA : Byts w A zs) :
    Calls Try.prog 83 #[.slice A zs.length c] w (CsQ w) := by
  have HA := Lib.hid hA
  have HR1 : Hid (Blk ((w.alloc (.cells #[.int .i64 0, .int .i64 0, .string ⟨#[]⟩, .slice none 0 0, .int .i64 0, .int .i64 0, .int .i64 0] 30)).alloc (.cells #[.int .i64 0, .int .i64 0] 25)) w.heap.size 30 #[.int .i64 0, .int .i64 0, .string ⟨#[]⟩, .slice none 0 0, .int .i64 0, .int .i64 0, .int .i64 0]) := Blk.alloc _ (Blk.new _ _ _)
  have HR2 : Hid (Blk ((w.alloc (.cells #[.int .i64 0, .int .i64 0, .string ⟨#[]⟩, .slice none 0 0, .int .i64 0, .int .i64 0, .int .i64 0] 30)).alloc (.cells #[.int .i64 0, .int .i64 0] 25)) (w.heap.size + 1) 25 #[.int .i64 0, .int .i64 0]) := by have h := Blk.new (w.alloc (.cells #[.int .i64 0, .int .i64 0, .string ⟨#[]⟩, .slice none 0 0, .int .i64 0, .int .i64 0, .int .i64 0] 30)) 25 #[.int .i64 0, .int .i64 0]; simp only [World.size_alloc] at h; exact h
  clear hA
  go_enter Try.func83, Try.ntmps83
  go_wp2_with fail
  go_at_call 105; refine (l01From_c A c zs hz _ (Byts.step (by repeat (with_reducible first | exact Below.refl _ _ | refine Bel.alloc ?_ _)) HA.out)).mono ?_; rintro e w1 ⟨X, rfl, hX, hS, hb1⟩; replace HR1 := Lib.hid (Blk.step hb1 HR1.out); replace HR2 := Lib.hid (Blk.step hb1 HR2.out); have HS := Lib.hid hS; have HK := Lib.hid (Kp.below (X := X) (a := w) hb1 (by repeat (with_reducible first | exact Kp.refl _ _ | refine Kp.alloc _ ?_ | refine Kp.drew ?_ | refine Kp.drewN _ ?_))); have hlX := hS.lt; have hsz1 := hb1.size; (try simp only [World.size_alloc] at hX hsz1); clear hS hb1
  go_wp2_with fail
  go_at_call 164; refine (l23Draw_c X A zs _ (by repeat (with_reducible first | exact HS.out | refine Src.alloc _ ?_ | refine Src.drew ?_ | refine Src.drewN _ ?_ | (refine Src.far _ ?_ ?_; (have := HS.out.lt; first | omega | (simp; omega))) | (refine Src.setRow _ ?_ ?_; (have := HS.out.lt; first | omega | (simp; omega)))))).mono ?_; rintro e w2 ⟨C2, g2, c2, rfl, ho2, hn2, hm2, hO2, hd2⟩; obtain ⟨hq2, hr2⟩ := World.ownsRow.lt hO2 g2 rfl; (try simp only [World.size_alloc] at hq2); have HO2 := Lib.hid hO2; clear hO2 ho2; have hkb := hd2.kp; have hka := Kp.ka HK.out hkb (by repeat (with_reducible first | exact Kp.refl _ _ | refine Kp.alloc _ ?_ | refine Kp.drew ?_ | refine Kp.drewN _ ?_)); have hlS2 := HS.out.lt; (try (replace HR1 := Lib.hid (Blk.kp2 hka hkb (by first | omega | (simp; omega)) (by first | omega | (simp; omega)) HR1.out))); (try (replace HR2 := Lib.hid (Blk.kp2 hka hkb (by first | omega | (simp; omega)) (by first | omega | (simp; omega)) HR2.out))); replace HK := Lib.hid (Kp.trans HK.out (Kp.trans hka hkb)); have hsz2 := hkb.size_; have hsy2 := hka.size_; (try simp only [World.size_alloc, World.size_drew, World.heap_drewN, World.size_setCell] at hsz2 hsy2); replace HS := Lib.hid hd2.src; clear hka hkb hd2 hlS2; have hlS2 := HS.out.lt
  have HF := Lib.hid (Blk.new w2 30 #[.int .i64 C2.dg, .int .i64 C2.tn, .string C2.nm, .slice (some ⟨g2, 0, none⟩) C2.zs.length c2, .int .i64 C2.wd, .int .i64 C2.lf, .int .i64 C2.rt])
  replace HR1 := Lib.hid (Blk.alloc (.cells #[.int .i64 C2.dg, .int .i64 C2.tn, .string C2.nm, .slice (some ⟨g2, 0, none⟩) C2.zs.length c2, .int .i64 C2.wd, .int .i64 C2.lf, .int .i64 C2.rt] 30) HR1.out)
  replace HR2 := Lib.hid (Blk.alloc (.cells #[.int .i64 C2.dg, .int .i64 C2.tn, .string C2.nm, .slice (some ⟨g2, 0, none⟩) C2.zs.length c2, .int .i64 C2.wd, .int .i64 C2.lf, .int .i64 C2.rt] 30) HR2.out)
  replace HO2 := Lib.hid (Own.alloc (.cells #[.int .i64 C2.dg, .int .i64 C2.tn, .string C2.nm, .slice (some ⟨g2, 0, none⟩) C2.zs.length c2, .int .i64 C2.wd, .int .i64 C2.lf, .int .i64 C2.rt] 30) HO2.out)
  replace HS := Lib.hid (Src.alloc (.cells #[.int .i64 C2.dg, .int .i64 C2.tn, .string C2.nm, .slice (some ⟨g2, 0, none⟩) C2.zs.length c2, .int .i64 C2.wd, .int .i64 C2.lf, .int .i64 C2.rt] 30) HS.out)
  replace HK := Lib.hid (Kp.alloc (.cells #[.int .i64 C2.dg, .int .i64 C2.tn, .string C2.nm, .slice (some ⟨g2, 0, none⟩) C2.zs.length c2, .int .i64 C2.wd, .int .i64 C2.lf, .int .i64 C2.rt] 30) HK.out)
  go_wp2_with fail
  go_at_call 165; refine (l23DrawScale_c X A zs _ (by repeat (with_reducible first | exact HS.out | refine Src.alloc _ ?_ | refine Src.drew ?_ | refine Src.drewN _ ?_ | (refine Src.far _ ?_ ?_; (have := HS.out.lt; first | omega | (simp; omega))) | (refine Src.setRow _ ?_ ?_; (have := HS.out.lt; first | omega | (simp; omega)))))).mono ?_; rintro e w3 ⟨x3, rfl, hd3⟩; have hkb := hd3.kp; have hka := Kp.ka HK.out hkb (by repeat (with_reducible first | exact Kp.refl _ _ | refine Kp.alloc _ ?_ | refine Kp.drew ?_ | refine Kp.drewN _ ?_)); have hlS3 := HS.out.lt; (try (replace HR1 := Lib.hid (Blk.kp2 hka hkb (by first | omega | (simp; omega)) (by first | omega | (simp; omega)) HR1.out))); (try (replace HR2 := Lib.hid (Blk.kp2 hka hkb (by first | omega | (simp; omega)) (by first | omega | (simp; omega)) HR2.out))); (try (replace HF := Lib.hid (Blk.kp2 hka hkb (by first | omega | (simp; omega)) (by first | omega | (simp; omega)) HF.out))); (try (replace HO2 := Lib.hid (Own.kp3 hka hkb (by first | omega | (simp; omega)) (by first | omega | (simp; omega)) HO2.out))); replace HK := Lib.hid (Kp.trans HK.out (Kp.trans hka hkb)); have hsz3 := hkb.size_; have hsy3 := hka.size_; (try simp only [World.size_alloc, World.size_drew, World.heap_drewN, World.size_setCell] at hsz3 hsy3); replace HS := Lib.hid hd3.src; clear hka hkb hd3 hlS3; have hlS3 := HS.out.lt
  go_upto_region 4 with (fail)
  have hs4 := HF.out.lt
  refine wp_region_held_drew (S := fun W => Blk W w2.heap.size 30 #[.int .i64 C2.dg, .int .i64 C2.tn, .string C2.nm, .slice (some ⟨g2, 0, none⟩) C2.zs.length c2, .int .i64 C2.wd, .int .i64 C2.lf, .int .i64 C2.rt] ∧ True) (by kernel_rfl) (⟨HF.out.drew, trivial⟩) (fun hHeld => ?_)
  replace HF := Lib.hid HF.out.drew
  replace HR1 := Lib.hid HR1.out.drew
  replace HR2 := Lib.hid HR2.out.drew
  replace HO2 := Lib.hid HO2.out.drew
  replace HS := Lib.hid HS.out.drew
  replace HK := Lib.hid HK.out.drew
  have hs5 : w3.drew.heap.size = w3.heap.size := rfl
  rw [← hs5] at hs4
  clear hs5
  generalize w3.drew = w5 at HF HR1 HR2 HO2 HS HK hHeld hs4 ⊢
  refine wpAnyH_take (i := 0) (v := .agg #[.int .i64 C2.dg, .int .i64 C2.tn, .string C2.nm, .slice (some ⟨g2, 0, none⟩) C2.zs.length c2, .int .i64 C2.wd, .int .i64 C2.lf, .int .i64 C2.rt]) rfl (by kernel_rfl) (by kernel_rfl) (by kernel_rfl) (fun _ _ _ h => h) (yieldsIf_load_blk 30 _ (w2.heap.size) (fun _ h => h.1) Try.underlying30 (by kernel_rfl) (by rfl) rfl rfl) hHeld ?_
  try simp only [Act.put, List.setIfInBounds_toArray, List.set_cons_zero, List.set_cons_succ]
  refine wpAnyH_take (i := 1) (v := (.int .i64 x3)) rfl (by kernel_rfl) (by kernel_rfl) (by kernel_rfl) (fun _ _ _ h => h) (Or.inl ⟨by rfl, fun w _ => by simp [go_sem, execOp]⟩) hHeld ?_
  simp only [Act.put, List.getElem_toArray, List.getElem_cons_succ, List.getElem_cons_zero, List.setIfInBounds_toArray, List.set_cons_zero, List.set_cons_succ]
  refine wpAnyH_take (i := 2) (v := (.pointer (some ⟨X, 0, none⟩))) rfl (by kernel_rfl) (by kernel_rfl) (by kernel_rfl) (fun _ _ _ h => h) (Or.inl ⟨by rfl, fun w _ => by simp [go_sem, execOp]⟩) hHeld ?_
  simp only [Act.put, List.getElem_toArray, List.getElem_cons_succ, List.getElem_cons_zero, List.setIfInBounds_toArray, List.set_cons_zero, List.set_cons_succ]
  refine wpAnyH_ready (rs := [3]) (by kernel_rfl) (by simp) ?_
  refine AllReadyH.cons rfl (fun K hK => ?_) AllReadyH.nil
  go_simp
  go_at_call 111; refine (l02Draw_c X A zs _ (by repeat (with_reducible first | exact HS.out | refine Src.alloc _ ?_ | refine Src.drew ?_ | refine Src.drewN _ ?_ | (refine Src.far _ ?_ ?_; (have := HS.out.lt; first | omega | (simp; omega))) | (refine Src.setRow _ ?_ ?_; (have := HS.out.lt; first | omega | (simp; omega)))))).mono ?_; rintro e w4 ⟨d4, t4, rfl, ho4, hd4⟩; clear ho4; have hkb := hd4.kp; have hka := Kp.ka HK.out hkb (by repeat (with_reducible first | exact Kp.refl _ _ | refine Kp.alloc _ ?_ | refine Kp.drew ?_ | refine Kp.drewN _ ?_)); have hlS4 := HS.out.lt; (try (replace HF := Lib.hid (Blk.kp2 hka hkb (by first | omega | (simp; omega)) (by first | omega | (simp; omega)) HF.out))); (try (replace HR1 := Lib.hid (Blk.kp2 hka hkb (by first | omega | (simp; omega)) (by first | omega | (simp; omega)) HR1.out))); (try (replace HR2 := Lib.hid (Blk.kp2 hka hkb (by first | omega | (simp; omega)) (by first | omega | (simp; omega)) HR2.out))); (try (replace HO2 := Lib.hid (Own.kp3 hka hkb (by first | omega | (simp; omega)) (by first | omega | (simp; omega)) HO2.out))); replace HK := Lib.hid (Kp.trans HK.out (Kp.trans hka hkb)); have hsz4 := hkb.size_; have hsy4 := hka.size_; (try simp only [World.size_alloc, World.size_drew, World.heap_drewN, World.size_setCell] at hsz4 hsy4); replace HS := Lib.hid hd4.src; clear hka hkb hd4 hlS4; have hlS4 := HS.out.lt
  go_wp2_with fail
  refine hK.out _ _ (⟨HF.out, trivial⟩) (fun hHeld => ?_)
  clear hK K
  try simp only [Act.put, List.setIfInBounds_toArray, List.set_cons_zero, List.set_cons_succ]
  refine wpAnyH_ready (rs := [4]) (by kernel_rfl) (by simp) ?_
  refine AllReadyH.cons rfl (fun K hK => ?_) AllReadyH.nil
  refine step_store_part 30 _ _ _ 0 (.agg #[.int .i64 C2.dg, .int .i64 C2.tn, .string C2.nm, .slice (some ⟨g2, 0, none⟩) C2.zs.length c2, .int .i64 C2.wd, .int .i64 C2.lf, .int .i64 C2.rt]) #[.int .i64 C2.dg, .int .i64 C2.tn, .string C2.nm, .slice (some ⟨g2, 0, none⟩) C2.zs.length c2, .int .i64 C2.wd, .int .i64 C2.lf, .int .i64 C2.rt] (Blk.kp (Kp.ka0 HK.out (by repeat (with_reducible first | exact Kp.refl _ _ | refine Kp.alloc _ ?_ | refine Kp.drew ?_ | refine Kp.drewN _ ?_))) (by first | omega | (simp; omega)) HR1.out) rfl rfl rfl rfl rfl (by rfl) (by kernel_rfl) (by simp [Value.oneCell']) (by simp) ?_; intro wS hBS hkb; simp only [setL, List.setIfInBounds_toArray, List.set_cons_zero, List.set_cons_succ] at hBS; have hka := Kp.ka HK.out hkb (by repeat (with_reducible first | exact Kp.refl _ _ | refine Kp.alloc _ ?_ | refine Kp.drew ?_ | refine Kp.drewN _ ?_)); have hlSo := HS.out.lt; (try (replace HF := Lib.hid (Blk.kp2 hka hkb (by first | omega | (simp; omega)) (by first | omega | (simp; omega)) HF.out))); (try (replace HR2 := Lib.hid (Blk.kp2 hka hkb (by first | omega | (simp; omega)) (by first | omega | (simp; omega)) HR2.out))); (try (replace HO2 := Lib.hid (Own.kp3 hka hkb (by first | omega | (simp; omega)) (by first | omega | (simp; omega)) HO2.out))); (try replace HS := Lib.hid (Src.kpg2 HS.out (by repeat (with_reducible first | exact Below.refl _ _ | refine Bel.alloc ?_ _ | refine Below.drew ?_ | refine Bel.drewN ?_ _)) hkb (by first | omega | (simp; omega)))); replace HR1 := Lib.hid hBS; replace HK := Lib.hid (Kp.own hkb (by first | omega | (simp; omega)) (Kp.trans HK.out hka)); have hszS := hkb.size_; have hsyS := hka.size_; (try simp only [World.size_alloc, World.size_drew, World.heap_drewN, World.size_setCell] at hszS hsyS); clear hBS hka hkb hlSo; have hlSS := HS.out.lt
  refine hK.out _ _ (⟨HF.out, trivial⟩) (fun hHeld => ?_)
  clear hK K
  try simp only [Act.put, List.setIfInBounds_toArray, List.set_cons_zero, List.set_cons_succ]
  refine wpAnyH_take (i := 5) (v := (.int .i64 x3)) rfl (by kernel_rfl) (by kernel_rfl) (by kernel_rfl) (fun _ _ _ h => h) (Or.inl ⟨by rfl, fun w _ => by simp [go_sem, execOp]⟩) hHeld ?_
  simp only [Act.put, List.getElem_toArray, List.getElem_cons_succ, List.getElem_cons_zero, List.setIfInBounds_toArray, List.set_cons_zero, List.set_cons_succ]
  refine wpAnyH_ready (rs := [6]) (by kernel_rfl) (by simp) ?_
  refine AllReadyH.cons rfl (fun K hK => ?_) AllReadyH.nil
  refine step_store_part 25 _ _ _ 0 (.agg #[.int .i64 d4, .int .i64 t4]) #[.int .i64 d4, .int .i64 t4] (Blk.kp (Kp.ka0 HK.out (by repeat (with_reducible first | exact Kp.refl _ _ | refine Kp.alloc _ ?_ | refine Kp.drew ?_ | refine Kp.drewN _ ?_))) (by first | omega | (simp; omega)) HR2.out) rfl rfl rfl rfl rfl (by rfl) (by kernel_rfl) (by simp [Value.oneCell']) (by simp) ?_; intro wS hBS hkb; simp only [setL, List.setIfInBounds_toArray, List.set_cons_zero, List.set_cons_succ] at hBS; have hka := Kp.ka HK.out hkb (by repeat (with_reducible first | exact Kp.refl _ _ | refine Kp.alloc _ ?_ | refine Kp.drew ?_ | refine Kp.drewN _ ?_)); have hlSo := HS.out.lt; (try (replace HF := Lib.hid (Blk.kp2 hka hkb (by first | omega | (simp; omega)) (by first | omega | (simp; omega)) HF.out))); (try (replace HR1 := Lib.hid (Blk.kp2 hka hkb (by first | omega | (simp; omega)) (by first | omega | (simp; omega)) HR1.out))); (try (replace HO2 := Lib.hid (Own.kp3 hka hkb (by first | omega | (simp; omega)) (by first | omega | (simp; omega)) HO2.out))); (try replace HS := Lib.hid (Src.kpg2 HS.out (by repeat (with_reducible first | exact Below.refl _ _ | refine Bel.alloc ?_ _ | refine Below.drew ?_ | refine Bel.drewN ?_ _)) hkb (by first | omega | (simp; omega)))); replace HR2 := Lib.hid hBS; replace HK := Lib.hid (Kp.own hkb (by first | omega | (simp; omega)) (Kp.trans HK.out hka)); have hszS := hkb.size_; have hsyS := hka.size_; (try simp only [World.size_alloc, World.size_drew, World.heap_drewN, World.size_setCell] at hszS hsyS); clear hBS hka hkb hlSo; have hlSS := HS.out.lt
  refine hK.out _ _ (⟨HF.out, trivial⟩) (fun hHeld => ?_)
  clear hK K
  try simp only [Act.put, List.setIfInBounds_toArray, List.set_cons_zero, List.set_cons_succ]
  refine wpAnyH_done (by kernel_rfl) ?_ _
  go_wp2
  exact bodyPost_ret (results_3 rfl (resF_cell HR1.out Try.underlying30 (by kernel_rfl) rfl) (resF_tmp _ rfl) (resF_cell HR2.out Try.underlying25 (by kernel_rfl) rfl)) rfl ⟨C2, g2, c2, x3, d4, t4, rfl, by omega, by omega, Own.ge_mono HO2.out (by omega), Kp.toBel HK.out (by omega)⟩
end Go.Proofs.Ytpmcgicopogbhaa
