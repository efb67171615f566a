/- Draws of chapter 28, as the statement FnModels takes them. Conditions: as stated at each contract. -/
import Derived.Test.YtpmcgicopogbhaaProg
import Derived.Test.YtpmcgicopogbhaaBase
import Derived.Test.YtpmcgicopogbhaaRw
import Derived.Test.YtpmcgicopogbhaaL01
import Derived.Test.YtpmcgicopogbhaaCp
import Derived.Test.YtpmcgicopogbhaaL28
import Derived.Test.YtpmcgicopogbhaaL28b
import Derived.Test.YtpmcgicopogbhaaL28c
import Derived.Test.YtpmcgicopogbhaaL28d
import Derived.Test.YtpmcgicopogbhaaD00
import Derived.Test.YtpmcgicopogbhaaD01
import Derived.Test.YtpmcgicopogbhaaD02
import Derived.Test.YtpmcgicopogbhaaD28
import Derived.WalkKit
import Derived.WalkSpells
import Derived.WalkLawsBesides
import Derived.Lib.Hide
import Derived.Deep.QuietTactic
import Derived.BigQuiet
import Derived.Deep.Draws
import Derived.Deep.RegionHeld3
import Derived.Deep.Cut
namespace Go.Proofs.Ytpmcgicopogbhaa
open Go.RowKit
set_option linter.unusedVariables false
set_option linter.unusedSimpArgs false
set_option maxHeartbeats 2000000 in
theorem DrawBestModel_c (A : Option Addr) (c : Nat) (zs : List Int) (hz : zs.length ≤ 4096) (w : World) (hA : Byts w A zs) :
    Calls Try.prog 40 #[.slice A zs.length c] w fun e w' => ∃ (ps : List (Int × Int)) (g c : Nat) (z : Int), e = .returned (.tuple #[.slice (some ⟨g, 0, none⟩) ps.length c, .int .i64 z]) ∧ ps.length ≤ 13 ∧ OwnP w' w.heap.size 137 (.slice (some ⟨g, 0, none⟩) ps.length c) ps ∧ Below w.heap.size w w' := by
  have HA := Lib.hid hA
  clear hA
  go_enter Try.func40, Try.ntmps40
  go_wp2_with fail
  go_at_call 105; refine (l01From_c A c zs hz _ (Byts.step (by repeat (with_reducible first | exact Below.refl _ _ | refine Bel.alloc ?_ _)) HA.out)).mono ?_; rintro e w1 ⟨X, rfl, hX, hS, hb1⟩; have HS := Lib.hid hS; have HK := Lib.hid (Kp.below (X := X) (a := w) hb1 (by repeat (with_reducible first | exact Kp.refl _ _ | refine Kp.alloc _ ?_ | refine Kp.drew ?_ | refine Kp.drewN _ ?_))); have hlX := hS.lt; have hsz1 := hb1.size; (try simp only [World.size_alloc] at hX hsz1); clear hS hb1
  go_wp2_with fail
  go_at_call 119; refine (l28Draw_c X A zs _ (by repeat (with_reducible first | exact HS.out | refine Src.alloc _ ?_ | refine Src.drew ?_ | refine Src.drewN _ ?_ | (refine Src.far _ ?_ ?_; (have := HS.out.lt; first | omega | (simp; omega))) | (refine Src.setRow _ ?_ ?_; (have := HS.out.lt; first | omega | (simp; omega)))))).mono ?_; rintro e w2 ⟨ps2, g2, c2, rfl, hn2, hO2, hd2⟩; obtain ⟨hq2, hr2⟩ := World.ownsRow.lt hO2 g2 rfl; (try simp only [World.size_alloc] at hq2); have HO2 := Lib.hid hO2; clear hO2; have hkb := hd2.kp; have hka := Kp.ka HK.out hkb (by repeat (with_reducible first | exact Kp.refl _ _ | refine Kp.alloc _ ?_ | refine Kp.drew ?_ | refine Kp.drewN _ ?_)); have hlS2 := HS.out.lt; replace HK := Lib.hid (Kp.trans HK.out (Kp.trans hka hkb)); have hsz2 := hkb.size_; have hsy2 := hka.size_; (try simp only [World.size_alloc, World.size_drew, World.heap_drewN, World.size_setCell] at hsz2 hsy2); replace HS := Lib.hid hd2.src; clear hka hkb hd2 hlS2; have hlS2 := HS.out.lt
  go_wp2_with fail
  go_at_call 120; refine (l01Pick_c X A zs _ _ 2 _ _ (by repeat (with_reducible first | exact HS.out | refine Src.alloc _ ?_ | refine Src.drew ?_ | refine Src.drewN _ ?_ | (refine Src.far _ ?_ ?_; (have := HS.out.lt; first | omega | (simp; omega))) | (refine Src.setRow _ ?_ ?_; (have := HS.out.lt; first | omega | (simp; omega))))) (by repeat (first | exact Blk.new _ _ _ | refine Blk.alloc _ ?_)) (by rfl) (by omega) (by omega) (by simp [isI]) (Nat.ne_of_gt (by have := HS.out.lt; first | omega | (simp; omega)))).mono ?_; rintro e w4 ⟨x4, i4, hi4, hp4, rfl, hd4⟩; have HP4 := Lib.hid hp4; clear hp4; have hkb := hd4.kp; have hka := Kp.ka HK.out hkb (by repeat (with_reducible first | exact Kp.refl _ _ | refine Kp.alloc _ ?_ | refine Kp.drew ?_ | refine Kp.drewN _ ?_)); have hlS4 := HS.out.lt; (try (replace HO2 := Lib.hid (OwnP.kp3 hka hkb (by first | omega | (simp; omega)) (by first | omega | (simp; omega)) HO2.out))); replace HK := Lib.hid (Kp.trans HK.out (Kp.trans hka hkb)); have hsz4 := hkb.size_; have hsy4 := hka.size_; (try simp only [World.size_alloc, World.size_drew, World.heap_drewN, World.size_setCell] at hsz4 hsy4); replace HS := Lib.hid hd4.src; clear hka hkb hd4 hlS4; have hlS4 := HS.out.lt
  go_wp2
  go_ret2
  exact ⟨ps2, g2, c2, _, rfl, hn2, OwnP.ge_mono HO2.out (by omega), Kp.toBel HK.out (by omega)⟩
set_option maxHeartbeats 2000000 in
theorem DrawCorrectPlace_c (A : Option Addr) (c : Nat) (zs : List Int) (hz : zs.length ≤ 4096) (w : World) (hA : Byts w A zs) :
    Calls Try.prog 43 #[.slice A zs.length c] w fun e w' => ∃ (x y z : Int), e = .returned (.tuple #[.agg #[.int .i64 x, .int .i64 y], .int .i64 z]) ∧ Below w.heap.size w w' := by
  have HA := Lib.hid hA
  have HB := Lib.hid (Below.refl w.heap.size w)
  clear hA
  have HR := Lib.hid (by have h := Blk.new w 73 #[.int .i64 0, .int .i64 0]; (try simp only [World.size_alloc] at h); exact h)
  replace HB := Lib.hid (Bel.alloc HB.out (.cells #[.int .i64 0, .int .i64 0] 73))
  go_enter Try.func43, Try.ntmps43
  go_wp2_with fail
  go_at_call 126; refine (DrawSeenAt_c A c zs hz _ (Byts.step (by repeat (with_reducible first | exact Below.refl _ _ | refine Bel.alloc ?_ _)) HA.out)).mono ?_; rintro e w1 ⟨x, y, z, rfl, hb1⟩; have hka := Bel.ka HB.out hb1 (by repeat (with_reducible first | exact Below.refl _ _ | refine Bel.alloc ?_ _ | refine Below.drew ?_ | refine Bel.drewN ?_ _)); (try (replace HR := Lib.hid (Blk.step hb1 (Blk.step hka HR.out)))); replace HB := Lib.hid (Bel.step hb1 (Bel.step hka HB.out)); have hsz1 := hb1.size; have hsy1 := hka.size; (try simp only [World.size_alloc, World.size_drew, World.heap_drewN, World.size_setCell] at hsz1 hsy1); clear hka hb1
  go_wp2_with (first | (refine wpList_store_part 73 _ _ _ 0 _ _ (Blk.step (Bel.ka0 HB.out (by repeat (with_reducible first | exact Below.refl _ _ | refine Bel.alloc ?_ _ | refine Below.drew ?_ | refine Bel.drewN ?_ _))) HR.out) rfl rfl rfl rfl (by rfl) (by kernel_rfl) (by simp [go_sem, Value.cells, Value.oneCell']) (by simp [go_sem, Value.cells]) ?_; intro wS hBS hkb; simp [go_sem, Value.cells, setL] at hBS; have hka := Kp.kab HB.out hkb (by repeat (with_reducible first | exact Below.refl _ _ | refine Bel.alloc ?_ _ | refine Below.drew ?_ | refine Bel.drewN ?_ _)); replace HB := Lib.hid (Kp.bel hkb (by first | omega | (simp; omega)) (by first | omega | (simp; omega)) (Bel.step hka HB.out)); replace HR := Lib.hid hBS; have hszS := hkb.size_; have hsyS := hka.size; (try simp only [World.size_alloc, World.size_drew, World.heap_drewN, World.size_setCell] at hszS hsyS); clear hBS hka hkb))
  exact bodyPost_ret (results_2 rfl (resF_cell HR.out Try.underlying73 (by kernel_rfl) rfl) (resF_tmp _ rfl)) rfl ⟨x, y, z, rfl, HB.out⟩
set_option maxRecDepth 20000 in
set_option maxHeartbeats 2000000 in
theorem DrawFarTests_c (A : Option Addr) (c : Nat) (zs : List Int) (hz : zs.length ≤ 4096) (w : World) (hA : Byts w A zs) :
    Calls Try.prog 46 #[.slice A zs.length c] w fun e w' => ∃ (x y : Int) (ps : List (Int × Int)) (g c : Nat) (z : Int), e = .returned (.tuple #[.agg #[.int .i64 x, .int .i64 y], .slice (some ⟨g, 0, none⟩) ps.length c, .int .i64 z]) ∧ ps.length ≤ 13 ∧ OwnP w' w.heap.size 137 (.slice (some ⟨g, 0, none⟩) ps.length c) ps ∧ Below w.heap.size w w' := by
  have HA := Lib.hid hA
  have HR := Lib.hid (Blk.new w 73 #[.int .i64 0, .int .i64 0])
  clear hA
  go_enter Try.func46, Try.ntmps46
  go_wp2_with fail
  go_at_call 105; refine (l01From_c A c zs hz _ (Byts.step (by repeat (with_reducible first | exact Below.refl _ _ | refine Bel.alloc ?_ _)) HA.out)).mono ?_; rintro e w1 ⟨X, rfl, hX, hS, hb1⟩; replace HR := Lib.hid (Blk.step hb1 HR.out); have HS := Lib.hid hS; have HK := Lib.hid (Kp.below (X := X) (a := w) hb1 (by repeat (with_reducible first | exact Kp.refl _ _ | refine Kp.alloc _ ?_ | refine Kp.drew ?_ | refine Kp.drewN _ ?_))); have hlX := hS.lt; have hsz1 := hb1.size; (try simp only [World.size_alloc] at hX hsz1); clear hS hb1
  have hAc : Byts w1 A zs := ⟨HS.out.rng, fun hn => by
    obtain ⟨b, o, e, hlt, hc⟩ := HS.out.cells hn
    exact ⟨b, o, e, Nat.lt_trans hlt HS.out.lt, hc⟩⟩
  go_wp2_with fail
  go_at_call 133; refine (DrawFitOf_c A c zs hz _ hAc).mono ?_; rintro e w2 ⟨x, y, ps, g, q, rfl, hn2, hO2, hb2⟩; replace HR := Lib.hid (Blk.step hb2 HR.out); replace HS := Lib.hid (Src.step hb2 HS.out); replace HK := Lib.hid (Kp.below hb2 HK.out); have hsz2 := hb2.size; (try simp only [World.size_alloc] at hsz2); clear hb2; have hlS2 := HS.out.lt
  clear hAc
  obtain ⟨hq2, hr2⟩ := World.ownsRow.lt hO2 g rfl
  have HO2 := Lib.hid hO2
  clear hO2
  have HM := Lib.hid (Blk.new w2 73 #[.int .i64 x, .int .i64 y])
  replace HR := Lib.hid (Blk.alloc (.cells #[.int .i64 x, .int .i64 y] 73) HR.out)
  replace HO2 := Lib.hid (OwnP.alloc (.cells #[.int .i64 x, .int .i64 y] 73) HO2.out)
  replace HS := Lib.hid (Src.alloc (.cells #[.int .i64 x, .int .i64 y] 73) HS.out)
  replace HK := Lib.hid (Kp.alloc (.cells #[.int .i64 x, .int .i64 y] 73) HK.out)
  go_upto_region 3 with (fail)
  have hs4 := HM.out.lt
  refine wp_region_held_drew (S := fun W => Blk W w2.heap.size 73 #[.int .i64 x, .int .i64 y] ∧ True) (by kernel_rfl) (⟨HM.out.drew, trivial⟩) (fun hHeld => ?_)
  replace HM := Lib.hid HM.out.drew
  replace HR := Lib.hid HR.out.drew
  replace HO2 := Lib.hid HO2.out.drew
  replace HS := Lib.hid HS.out.drew
  replace HK := Lib.hid HK.out.drew
  have hs5 : (w2.alloc (.cells #[.int .i64 x, .int .i64 y] 73)).drew.heap.size = (w2.alloc (.cells #[.int .i64 x, .int .i64 y] 73)).heap.size := rfl
  rw [← hs5] at hs4
  clear hs5
  generalize (w2.alloc (.cells #[.int .i64 x, .int .i64 y] 73)).drew = w5 at HM HR HO2 HS HK hHeld hs4 ⊢
  refine wpAnyH_take (i := 0) (v := .agg #[.int .i64 x, .int .i64 y]) rfl (by kernel_rfl) (by kernel_rfl) (by kernel_rfl) (fun _ _ _ h => h) (yieldsIf_load_blk 73 _ (w2.heap.size) (fun _ h => h.1) Try.underlying73 (by kernel_rfl) (by rfl) rfl rfl) hHeld ?_
  simp only [Act.put, List.getElem_toArray, List.getElem_cons_succ, List.getElem_cons_zero, List.setIfInBounds_toArray, List.set_cons_zero, List.set_cons_succ]
  refine wpAnyH_take (i := 1) (v := (.slice (some ⟨g, 0, none⟩) ps.length q)) rfl (by kernel_rfl) (by kernel_rfl) (by kernel_rfl) (fun _ _ _ h => h) (Or.inl ⟨by rfl, fun w _ => by simp [go_sem, execOp]⟩) hHeld ?_
  simp only [Act.put, List.getElem_toArray, List.getElem_cons_succ, List.getElem_cons_zero, List.setIfInBounds_toArray, List.set_cons_zero, List.set_cons_succ]
  refine wpAnyH_take (i := 2) (v := (.pointer (some ⟨X, 0, none⟩))) rfl (by kernel_rfl) (by kernel_rfl) (by kernel_rfl) (fun _ _ _ h => h) (Or.inl ⟨by rfl, fun w _ => by simp [go_sem, execOp]⟩) hHeld ?_
  simp only [Act.put, List.getElem_toArray, List.getElem_cons_succ, List.getElem_cons_zero, List.setIfInBounds_toArray, List.set_cons_zero, List.set_cons_succ]
  refine wpAnyH_ready (rs := [3]) (by kernel_rfl) (by simp) ?_
  refine AllReadyH.cons rfl (fun K hK => ?_) (AllReadyH.nil)
  go_simp
  have HN := Lib.hid (Blk.new w5 2 #[.int .i64 0, .int .i64 3, .int .i64 10, .int .i64 100, .int .i64 1000, .int .i64 100000, .int .i64 100001, .int .i64 (-1)])
  replace HM := Lib.hid (Blk.alloc (.cells #[.int .i64 0, .int .i64 3, .int .i64 10, .int .i64 100, .int .i64 1000, .int .i64 100000, .int .i64 100001, .int .i64 (-1)] 2) HM.out)
  replace HR := Lib.hid (Blk.alloc (.cells #[.int .i64 0, .int .i64 3, .int .i64 10, .int .i64 100, .int .i64 1000, .int .i64 100000, .int .i64 100001, .int .i64 (-1)] 2) HR.out)
  replace HO2 := Lib.hid (OwnP.alloc (.cells #[.int .i64 0, .int .i64 3, .int .i64 10, .int .i64 100, .int .i64 1000, .int .i64 100000, .int .i64 100001, .int .i64 (-1)] 2) HO2.out)
  replace HS := Lib.hid (Src.alloc (.cells #[.int .i64 0, .int .i64 3, .int .i64 10, .int .i64 100, .int .i64 1000, .int .i64 100000, .int .i64 100001, .int .i64 (-1)] 2) HS.out)
  replace HK := Lib.hid (Kp.alloc (.cells #[.int .i64 0, .int .i64 3, .int .i64 10, .int .i64 100, .int .i64 1000, .int .i64 100000, .int .i64 100001, .int .i64 (-1)] 2) HK.out)
  refine hK.out _ _ (⟨HM.out, trivial⟩) (fun hHeld => ?_)
  clear hK K
  try simp only [Act.put, List.setIfInBounds_toArray, List.set_cons_zero, List.set_cons_succ]
  refine wpAnyH_ready (rs := [4]) (by kernel_rfl) (by simp) ?_
  refine AllReadyH.cons rfl (fun K hK => ?_) AllReadyH.nil
  go_simp
  go_at_call 120; refine (l01Pick_c X A zs _ _ 2 _ _ (by repeat (with_reducible first | exact HS.out | refine Src.alloc _ ?_ | refine Src.drew ?_ | refine Src.drewN _ ?_ | (refine Src.far _ ?_ ?_; (have := HS.out.lt; first | omega | (simp; omega))) | (refine Src.setRow _ ?_ ?_; (have := HS.out.lt; first | omega | (simp; omega))))) (by repeat (first | exact Blk.new _ _ _ | refine Blk.alloc _ ?_)) (by rfl) (by omega) (by omega) (by simp [isI]) (Nat.ne_of_gt (by have := HS.out.lt; first | omega | (simp; omega)))).mono ?_; rintro e w8 ⟨x8, i8, hi8, hp8, rfl, hd8⟩; have HP8 := Lib.hid hp8; clear hp8; have hkb := hd8.kp; have hka := Kp.ka HK.out hkb (by repeat (with_reducible first | exact Kp.refl _ _ | refine Kp.alloc _ ?_ | refine Kp.drew ?_ | refine Kp.drewN _ ?_)); have hlS8 := HS.out.lt; (try (replace HM := Lib.hid (Blk.kp2 hka hkb (by first | omega | (simp; omega)) (by first | omega | (simp; omega)) HM.out))); (try (replace HR := Lib.hid (Blk.kp2 hka hkb (by first | omega | (simp; omega)) (by first | omega | (simp; omega)) HR.out))); (try (replace HO2 := Lib.hid (OwnP.kp3 hka hkb (by first | omega | (simp; omega)) (by first | omega | (simp; omega)) HO2.out))); replace HK := Lib.hid (Kp.trans HK.out (Kp.trans hka hkb)); have hsz8 := hkb.size_; have hsy8 := hka.size_; (try simp only [World.size_alloc, World.size_drew, World.heap_drewN, World.size_setCell] at hsz8 hsy8); replace HS := Lib.hid hd8.src; clear hka hkb hd8 hlS8; have hlS8 := HS.out.lt
  go_wp2_with fail
  refine hK.out _ _ (⟨HM.out, trivial⟩) (fun hHeld => ?_)
  clear hK K
  try simp only [Act.put, List.setIfInBounds_toArray, List.set_cons_zero, List.set_cons_succ]
  refine wpAnyH_ready (rs := [5]) (by kernel_rfl) (by simp) ?_
  refine AllReadyH.cons rfl (fun K hK => ?_) AllReadyH.nil
  refine step_store_part 73 _ _ _ 0 (.agg #[.int .i64 x, .int .i64 y]) #[.int .i64 x, .int .i64 y] (Blk.kp (Kp.ka0 HK.out (by repeat (with_reducible first | exact Kp.refl _ _ | refine Kp.alloc _ ?_ | refine Kp.drew ?_ | refine Kp.drewN _ ?_))) (by first | omega | (simp; omega)) HR.out) rfl rfl rfl rfl rfl (by rfl) (by kernel_rfl) (by simp [Value.oneCell']) (by simp) ?_; intro wS hBS hkb; simp only [setL, List.setIfInBounds_toArray, List.set_cons_zero, List.set_cons_succ] at hBS; have hka := Kp.ka HK.out hkb (by repeat (with_reducible first | exact Kp.refl _ _ | refine Kp.alloc _ ?_ | refine Kp.drew ?_ | refine Kp.drewN _ ?_)); have hlSo := HS.out.lt; (try (replace HM := Lib.hid (Blk.kp2 hka hkb (by first | omega | (simp; omega)) (by first | omega | (simp; omega)) HM.out))); (try (replace HO2 := Lib.hid (OwnP.kp3 hka hkb (by first | omega | (simp; omega)) (by first | omega | (simp; omega)) HO2.out))); (try replace HS := Lib.hid (Src.kpg2 HS.out (by repeat (with_reducible first | exact Below.refl _ _ | refine Bel.alloc ?_ _ | refine Below.drew ?_ | refine Bel.drewN ?_ _)) hkb (by first | omega | (simp; omega)))); replace HR := Lib.hid hBS; replace HK := Lib.hid (Kp.own hkb (by first | omega | (simp; omega)) (Kp.trans HK.out hka)); have hszS := hkb.size_; have hsyS := hka.size_; (try simp only [World.size_alloc, World.size_drew, World.heap_drewN, World.size_setCell] at hszS hsyS); clear hBS hka hkb hlSo; have hlSS := HS.out.lt
  refine hK.out _ _ (⟨HM.out, trivial⟩) (fun hHeld => ?_)
  clear hK K
  try simp only [Act.put, List.setIfInBounds_toArray, List.set_cons_zero, List.set_cons_succ]
  refine wpAnyH_take (i := 6) (v := (.slice (some ⟨g, 0, none⟩) ps.length q)) rfl (by kernel_rfl) (by kernel_rfl) (by kernel_rfl) (fun _ _ _ h => h) (Or.inl ⟨by rfl, fun w _ => by simp [go_sem, execOp]⟩) hHeld ?_
  simp only [Act.put, List.getElem_toArray, List.getElem_cons_succ, List.getElem_cons_zero, List.setIfInBounds_toArray, List.set_cons_zero, List.set_cons_succ]
  refine wpAnyH_take (i := 7) (v := (.int .i64 x8)) rfl (by kernel_rfl) (by kernel_rfl) (by kernel_rfl) (fun _ _ _ h => h) (Or.inl ⟨by rfl, fun w _ => by simp [go_sem, execOp]⟩) hHeld ?_
  simp only [Act.put, List.getElem_toArray, List.getElem_cons_succ, List.getElem_cons_zero, List.setIfInBounds_toArray, List.set_cons_zero, List.set_cons_succ]
  refine wpAnyH_done (by kernel_rfl) ?_ _
  go_wp2
  exact bodyPost_ret (results_3 rfl (resF_cell HR.out Try.underlying73 (by kernel_rfl) rfl) (resF_tmp _ rfl) (resF_tmp _ rfl)) rfl ⟨x, y, ps, g, q, x8, rfl, hn2, OwnP.ge_mono HO2.out (by omega), Kp.toBel HK.out (by omega)⟩
set_option maxHeartbeats 2000000 in
theorem drawScale_c (X : Nat) (A : Option Addr) (zs : List Int) (w : World) (hS : Src w X A zs) :
    Calls Try.prog 136 #[.pointer (some ⟨X, 0, none⟩)] w (DrZ X A zs w) := by
  have HS := Lib.hid hS
  have HK := Lib.hid (Kp.refl X w)
  clear hS
  go_enter Try.func136, Try.ntmps136
  go_wp2_with fail
  go_at_call 112; refine (l01Next_c X A zs _ (by omega) _ (by repeat (with_reducible first | exact HS.out | refine Src.alloc _ ?_ | refine Src.drew ?_ | refine Src.drewN _ ?_ | (refine Src.far _ ?_ ?_; (have := HS.out.lt; first | omega | (simp; omega))) | (refine Src.setRow _ ?_ ?_; (have := HS.out.lt; first | omega | (simp; omega)))))).mono ?_; rintro e w1 ⟨x1, rfl, hx1, hy1, hd1⟩; (try rw [Int.max_eq_left (by omega)] at hy1); have hkb := hd1.kp; have hka := Kp.ka HK.out hkb (by repeat (with_reducible first | exact Kp.refl _ _ | refine Kp.alloc _ ?_ | refine Kp.drew ?_ | refine Kp.drewN _ ?_)); have hlS1 := HS.out.lt; replace HK := Lib.hid (Kp.trans HK.out (Kp.trans hka hkb)); have hsz1 := hkb.size_; have hsy1 := hka.size_; (try simp only [World.size_alloc, World.size_drew, World.heap_drewN, World.size_setCell] at hsz1 hsy1); replace HS := Lib.hid hd1.src; clear hka hkb hd1 hlS1; have hlS1 := HS.out.lt
  go_wp2_with fail
  go_at_call 112; refine (l01Next_c X A zs _ (by omega) _ (by repeat (with_reducible first | exact HS.out | refine Src.alloc _ ?_ | refine Src.drew ?_ | refine Src.drewN _ ?_ | (refine Src.far _ ?_ ?_; (have := HS.out.lt; first | omega | (simp; omega))) | (refine Src.setRow _ ?_ ?_; (have := HS.out.lt; first | omega | (simp; omega)))))).mono ?_; rintro e w2 ⟨x2, rfl, hx2, hy2, hd2⟩; (try rw [Int.max_eq_left (by omega)] at hy2); have hkb := hd2.kp; have hka := Kp.ka HK.out hkb (by repeat (with_reducible first | exact Kp.refl _ _ | refine Kp.alloc _ ?_ | refine Kp.drew ?_ | refine Kp.drewN _ ?_)); have hlS2 := HS.out.lt; replace HK := Lib.hid (Kp.trans HK.out (Kp.trans hka hkb)); have hsz2 := hkb.size_; have hsy2 := hka.size_; (try simp only [World.size_alloc, World.size_drew, World.heap_drewN, World.size_setCell] at hsz2 hsy2); replace HS := Lib.hid hd2.src; clear hka hkb hd2 hlS2; have hlS2 := HS.out.lt
  go_wp2_with fail
  go_at_call 112; refine (l01Next_c X A zs _ (by omega) _ (by repeat (with_reducible first | exact HS.out | refine Src.alloc _ ?_ | refine Src.drew ?_ | refine Src.drewN _ ?_ | (refine Src.far _ ?_ ?_; (have := HS.out.lt; first | omega | (simp; omega))) | (refine Src.setRow _ ?_ ?_; (have := HS.out.lt; first | omega | (simp; omega)))))).mono ?_; rintro e w3 ⟨x3, rfl, hx3, hy3, hd3⟩; (try rw [Int.max_eq_left (by omega)] at hy3); have hkb := hd3.kp; have hka := Kp.ka HK.out hkb (by repeat (with_reducible first | exact Kp.refl _ _ | refine Kp.alloc _ ?_ | refine Kp.drew ?_ | refine Kp.drewN _ ?_)); have hlS3 := HS.out.lt; replace HK := Lib.hid (Kp.trans HK.out (Kp.trans hka hkb)); have hsz3 := hkb.size_; have hsy3 := hka.size_; (try simp only [World.size_alloc, World.size_drew, World.heap_drewN, World.size_setCell] at hsz3 hsy3); replace HS := Lib.hid hd3.src; clear hka hkb hd3 hlS3; have hlS3 := HS.out.lt
  go_wp2
  go_ret
  exact ⟨_, rfl, HS.out, HK.out⟩
set_option maxRecDepth 20000 in
set_option maxHeartbeats 2000000 in
theorem drawFigure_c (X : Nat) (A : Option Addr) (zs : List Int) (sc : Int) (w : World) (hS : Src w X A zs) :
    Calls Try.prog 137 #[.pointer (some ⟨X, 0, none⟩), .int .i64 sc] w (DrF false X A zs w) := by
  have hlX := hS.lt
  have HS := Lib.hid (Src.alloc (.cells #[.int .i64 0, .int .i64 0] 25) hS)
  have HK := Lib.hid (Kp.alloc (.cells #[.int .i64 0, .int .i64 0] 25) (Kp.refl X w))
  have HR := Lib.hid (Blk.new w 25 #[.int .i64 0, .int .i64 0])
  clear hS
  go_enter Try.func137, Try.ntmps137
  go_wp2_with fail
  go_at_call 111; refine (l02Draw_c X A zs _ (by repeat (with_reducible first | exact HS.out | refine Src.alloc _ ?_ | refine Src.drew ?_ | refine Src.drewN _ ?_ | (refine Src.far _ ?_ ?_; (have := HS.out.lt; first | omega | (simp; omega))) | (refine Src.setRow _ ?_ ?_; (have := HS.out.lt; first | omega | (simp; omega)))))).mono ?_; rintro e w1 ⟨d1, t1, rfl, ho1, hd1⟩; clear ho1; have hkb := hd1.kp; have hka := Kp.ka HK.out hkb (by repeat (with_reducible first | exact Kp.refl _ _ | refine Kp.alloc _ ?_ | refine Kp.drew ?_ | refine Kp.drewN _ ?_)); have hlS1 := HS.out.lt; (try (replace HR := Lib.hid (Blk.kp2 hka hkb (by first | omega | (simp; omega)) (by first | omega | (simp; omega)) HR.out))); replace HK := Lib.hid (Kp.trans HK.out (Kp.trans hka hkb)); have hsz1 := hkb.size_; have hsy1 := hka.size_; (try simp only [World.size_alloc, World.size_drew, World.heap_drewN, World.size_setCell] at hsz1 hsy1); replace HS := Lib.hid hd1.src; clear hka hkb hd1 hlS1; have hlS1 := HS.out.lt
  have HM := Lib.hid (Blk.new w1 25 #[.int .i64 d1, .int .i64 t1])
  replace HR := Lib.hid (Blk.alloc (.cells #[.int .i64 d1, .int .i64 t1] 25) HR.out)
  replace HS := Lib.hid (Src.alloc (.cells #[.int .i64 d1, .int .i64 t1] 25) HS.out)
  replace HK := Lib.hid (Kp.alloc (.cells #[.int .i64 d1, .int .i64 t1] 25) HK.out)
  have hlM := HM.out.lt
  by_cases h5 : sc = 5
  · subst h5
    go_wp2_with fail
    go_at_call 112; refine (l01Next_c X A zs _ (by omega) _ (by repeat (with_reducible first | exact HS.out | refine Src.alloc _ ?_ | refine Src.drew ?_ | refine Src.drewN _ ?_ | (refine Src.far _ ?_ ?_; (have := HS.out.lt; first | omega | (simp; omega))) | (refine Src.setRow _ ?_ ?_; (have := HS.out.lt; first | omega | (simp; omega)))))).mono ?_; rintro e w2 ⟨x2, rfl, hx2, hy2, hd2⟩; (try rw [Int.max_eq_left (by omega)] at hy2); have hkb := hd2.kp; have hka := Kp.ka HK.out hkb (by repeat (with_reducible first | exact Kp.refl _ _ | refine Kp.alloc _ ?_ | refine Kp.drew ?_ | refine Kp.drewN _ ?_)); have hlS2 := HS.out.lt; (try (replace HR := Lib.hid (Blk.kp2 hka hkb (by first | omega | (simp; omega)) (by first | omega | (simp; omega)) HR.out))); (try (replace HM := Lib.hid (Blk.kp2 hka hkb (by first | omega | (simp; omega)) (by first | omega | (simp; omega)) HM.out))); replace HK := Lib.hid (Kp.trans HK.out (Kp.trans hka hkb)); have hsz2 := hkb.size_; have hsy2 := hka.size_; (try simp only [World.size_alloc, World.size_drew, World.heap_drewN, World.size_setCell] at hsz2 hsy2); replace HS := Lib.hid hd2.src; clear hka hkb hd2 hlS2; have hlS2 := HS.out.lt
    have hlM2 := HM.out.lt
    by_cases hx : 0 < x2
    · go_wp2_with (first | (refine wpList_store_part 2 _ _ _ 1 (.int .i64 0) #[.int .i64 0] (Blk.kp (Kp.ka0 HK.out (by repeat (with_reducible first | exact Kp.refl _ _ | refine Kp.alloc _ ?_ | refine Kp.drew ?_ | refine Kp.drewN _ ?_))) (by first | omega | (simp; omega)) HM.out) rfl rfl rfl rfl (by rfl) (by kernel_rfl) (by simp [Value.oneCell']) (by simp) ?_; intro wS hBS hkb; simp only [setL, List.setIfInBounds_toArray, List.set_cons_zero, List.set_cons_succ] at hBS; have hka := Kp.ka HK.out hkb (by repeat (with_reducible first | exact Kp.refl _ _ | refine Kp.alloc _ ?_ | refine Kp.drew ?_ | refine Kp.drewN _ ?_)); have hlSo := HS.out.lt; (try (replace HR := Lib.hid (Blk.kp2 hka hkb (by first | omega | (simp; omega)) (by first | omega | (simp; omega)) HR.out))); (try replace HS := Lib.hid (Src.kpg2 HS.out (by repeat (with_reducible first | exact Below.refl _ _ | refine Bel.alloc ?_ _ | refine Below.drew ?_ | refine Bel.drewN ?_ _)) hkb (by first | omega | (simp; omega)))); replace HM := Lib.hid hBS; replace HK := Lib.hid (Kp.own hkb (by first | omega | (simp; omega)) (Kp.trans HK.out hka)); have hszS := hkb.size_; have hsyS := hka.size_; (try simp only [World.size_alloc, World.size_drew, World.heap_drewN, World.size_setCell] at hszS hsyS); clear hBS hka hkb hlSo; have hlSS := HS.out.lt) | (refine wpList_load_blkG 25 _ _ (Blk.kp (Kp.ka0 HK.out (by repeat (with_reducible first | exact Kp.refl _ _ | refine Kp.alloc _ ?_ | refine Kp.drew ?_ | refine Kp.drewN _ ?_))) (by first | omega | (simp; omega)) HM.out) Try.underlying25 (by kernel_rfl) rfl rfl (by rfl) ?_) | (refine wpList_store_part 25 _ _ _ 0 _ _ (Blk.kp (Kp.ka0 HK.out (by repeat (with_reducible first | exact Kp.refl _ _ | refine Kp.alloc _ ?_ | refine Kp.drew ?_ | refine Kp.drewN _ ?_))) (by first | omega | (simp; omega)) HR.out) rfl rfl rfl rfl (by rfl) (by kernel_rfl) (by simp [go_sem, Value.cells, Value.oneCell']) (by simp [go_sem, Value.cells]) ?_; intro wS hBS hkb; simp [go_sem, Value.cells, setL] at hBS; have hka := Kp.ka HK.out hkb (by repeat (with_reducible first | exact Kp.refl _ _ | refine Kp.alloc _ ?_ | refine Kp.drew ?_ | refine Kp.drewN _ ?_)); have hlSo := HS.out.lt; (try (replace HM := Lib.hid (Blk.kp2 hka hkb (by first | omega | (simp; omega)) (by first | omega | (simp; omega)) HM.out))); (try replace HS := Lib.hid (Src.kpg2 HS.out (by repeat (with_reducible first | exact Below.refl _ _ | refine Bel.alloc ?_ _ | refine Below.drew ?_ | refine Bel.drewN ?_ _)) hkb (by first | omega | (simp; omega)))); replace HR := Lib.hid hBS; replace HK := Lib.hid (Kp.own hkb (by first | omega | (simp; omega)) (Kp.trans HK.out hka)); have hszS := hkb.size_; have hsyS := hka.size_; (try simp only [World.size_alloc, World.size_drew, World.heap_drewN, World.size_setCell] at hszS hsyS); clear hBS hka hkb hlSo; have hlSS := HS.out.lt))
      exact bodyPost_ret (results_blk HR.out Try.underlying25 (by kernel_rfl) rfl rfl) rfl ⟨d1, 0, rfl, by simp, HS.out, HK.out⟩
    · obtain rfl : x2 = 0 := by omega
      go_wp2_with (first | (refine wpList_load_blkG 25 _ _ (Blk.kp (Kp.ka0 HK.out (by repeat (with_reducible first | exact Kp.refl _ _ | refine Kp.alloc _ ?_ | refine Kp.drew ?_ | refine Kp.drewN _ ?_))) (by first | omega | (simp; omega)) HM.out) Try.underlying25 (by kernel_rfl) rfl rfl (by rfl) ?_) | (refine wpList_store_part 25 _ _ _ 0 _ _ (Blk.kp (Kp.ka0 HK.out (by repeat (with_reducible first | exact Kp.refl _ _ | refine Kp.alloc _ ?_ | refine Kp.drew ?_ | refine Kp.drewN _ ?_))) (by first | omega | (simp; omega)) HR.out) rfl rfl rfl rfl (by rfl) (by kernel_rfl) (by simp [go_sem, Value.cells, Value.oneCell']) (by simp [go_sem, Value.cells]) ?_; intro wS hBS hkb; simp [go_sem, Value.cells, setL] at hBS; have hka := Kp.ka HK.out hkb (by repeat (with_reducible first | exact Kp.refl _ _ | refine Kp.alloc _ ?_ | refine Kp.drew ?_ | refine Kp.drewN _ ?_)); have hlSo := HS.out.lt; (try (replace HM := Lib.hid (Blk.kp2 hka hkb (by first | omega | (simp; omega)) (by first | omega | (simp; omega)) HM.out))); (try replace HS := Lib.hid (Src.kpg2 HS.out (by repeat (with_reducible first | exact Below.refl _ _ | refine Bel.alloc ?_ _ | refine Below.drew ?_ | refine Bel.drewN ?_ _)) hkb (by first | omega | (simp; omega)))); replace HR := Lib.hid hBS; replace HK := Lib.hid (Kp.own hkb (by first | omega | (simp; omega)) (Kp.trans HK.out hka)); have hszS := hkb.size_; have hsyS := hka.size_; (try simp only [World.size_alloc, World.size_drew, World.heap_drewN, World.size_setCell] at hszS hsyS); clear hBS hka hkb hlSo; have hlSS := HS.out.lt))
      exact bodyPost_ret (results_blk HR.out Try.underlying25 (by kernel_rfl) rfl rfl) rfl ⟨d1, t1, rfl, by simp, HS.out, HK.out⟩
  · have hb5 : (sc == 5) = false := by simpa using h5
    clear h5
    go_wp2_with (first | (refine wpList_load_blkG 25 _ _ (Blk.kp (Kp.ka0 HK.out (by repeat (with_reducible first | exact Kp.refl _ _ | refine Kp.alloc _ ?_ | refine Kp.drew ?_ | refine Kp.drewN _ ?_))) (by first | omega | (simp; omega)) HM.out) Try.underlying25 (by kernel_rfl) rfl rfl (by rfl) ?_) | (refine wpList_store_part 25 _ _ _ 0 _ _ (Blk.kp (Kp.ka0 HK.out (by repeat (with_reducible first | exact Kp.refl _ _ | refine Kp.alloc _ ?_ | refine Kp.drew ?_ | refine Kp.drewN _ ?_))) (by first | omega | (simp; omega)) HR.out) rfl rfl rfl rfl (by rfl) (by kernel_rfl) (by simp [go_sem, Value.cells, Value.oneCell']) (by simp [go_sem, Value.cells]) ?_; intro wS hBS hkb; simp [go_sem, Value.cells, setL] at hBS; have hka := Kp.ka HK.out hkb (by repeat (with_reducible first | exact Kp.refl _ _ | refine Kp.alloc _ ?_ | refine Kp.drew ?_ | refine Kp.drewN _ ?_)); have hlSo := HS.out.lt; (try (replace HM := Lib.hid (Blk.kp2 hka hkb (by first | omega | (simp; omega)) (by first | omega | (simp; omega)) HM.out))); (try replace HS := Lib.hid (Src.kpg2 HS.out (by repeat (with_reducible first | exact Below.refl _ _ | refine Bel.alloc ?_ _ | refine Below.drew ?_ | refine Bel.drewN ?_ _)) hkb (by first | omega | (simp; omega)))); replace HR := Lib.hid hBS; replace HK := Lib.hid (Kp.own hkb (by first | omega | (simp; omega)) (Kp.trans HK.out hka)); have hszS := hkb.size_; have hsyS := hka.size_; (try simp only [World.size_alloc, World.size_drew, World.heap_drewN, World.size_setCell] at hszS hsyS); clear hBS hka hkb hlSo; have hlSS := HS.out.lt))
    exact bodyPost_ret (results_blk HR.out Try.underlying25 (by kernel_rfl) rfl rfl) rfl ⟨d1, t1, rfl, by simp, HS.out, HK.out⟩
set_option maxRecDepth 20000 in
set_option maxHeartbeats 2000000 in
theorem DrawWornFigure_c (A : Option Addr) (c : Nat) (zs : List Int) (hz : zs.length ≤ 4096) (w : World) (hA : Byts w A zs) :
    Calls Try.prog 49 #[.slice A zs.length c] w fun e w' => ∃ (x y sc d t : Int), e = .returned (.tuple #[.agg #[.int .i64 x, .int .i64 y], .int .i64 sc, .int .i64 25000, .agg #[.int .i64 d, .int .i64 t]]) ∧ Below w.heap.size w w' := by
  have HA := Lib.hid hA
  have HB := Lib.hid (Below.refl w.heap.size w)
  have HR1 := Lib.hid (by have h := Blk.new w 73 #[.int .i64 0, .int .i64 0]; (try simp only [World.size_alloc] at h); exact h)
  replace HB := Lib.hid (Bel.alloc HB.out (.cells #[.int .i64 0, .int .i64 0] 73))
  have HR2 := Lib.hid (by have h := Blk.new (w.alloc (.cells #[.int .i64 0, .int .i64 0] 73)) 25 #[.int .i64 0, .int .i64 0]; (try simp only [World.size_alloc] at h); exact h)
  replace HR1 := Lib.hid (Blk.alloc (.cells #[.int .i64 0, .int .i64 0] 25) HR1.out)
  replace HB := Lib.hid (Bel.alloc HB.out (.cells #[.int .i64 0, .int .i64 0] 25))
  clear hA
  go_enter Try.func49, Try.ntmps49
  go_wp2_with fail
  go_at_call 105; refine (l01From_c A c zs hz _ (Byts.step (by repeat (with_reducible first | exact Below.refl _ _ | refine Bel.alloc ?_ _)) HA.out)).mono ?_; rintro e w1 ⟨X, rfl, hX, hS, hb1⟩; replace HR1 := Lib.hid (Blk.step hb1 HR1.out); replace HR2 := Lib.hid (Blk.step hb1 HR2.out); have HS := Lib.hid hS; have HK := Lib.hid (Kp.below (X := X) (a := w) hb1 (by repeat (with_reducible first | exact Kp.refl _ _ | refine Kp.alloc _ ?_ | refine Kp.drew ?_ | refine Kp.drewN _ ?_))); have hlX := hS.lt; have hsz1 := hb1.size; (try simp only [World.size_alloc] at hX hsz1); clear hS hb1
  clear HB
  go_wp2_with fail
  go_at_call 135; refine (l28DrawModel_c X A zs _ (by repeat (with_reducible first | exact HS.out | refine Src.alloc _ ?_ | refine Src.drew ?_ | refine Src.drewN _ ?_ | (refine Src.far _ ?_ ?_; (have := HS.out.lt; first | omega | (simp; omega))) | (refine Src.setRow _ ?_ ?_; (have := HS.out.lt; first | omega | (simp; omega)))))).mono ?_; rintro e w2 ⟨x2, y2, rfl, hd2⟩; have hkb := hd2.kp; have hka := Kp.ka HK.out hkb (by repeat (with_reducible first | exact Kp.refl _ _ | refine Kp.alloc _ ?_ | refine Kp.drew ?_ | refine Kp.drewN _ ?_)); have hlS2 := HS.out.lt; (try (replace HR1 := Lib.hid (Blk.kp2 hka hkb (by first | omega | (simp; omega)) (by first | omega | (simp; omega)) HR1.out))); (try (replace HR2 := Lib.hid (Blk.kp2 hka hkb (by first | omega | (simp; omega)) (by first | omega | (simp; omega)) HR2.out))); replace HK := Lib.hid (Kp.trans HK.out (Kp.trans hka hkb)); have hsz2 := hkb.size_; have hsy2 := hka.size_; (try simp only [World.size_alloc, World.size_drew, World.heap_drewN, World.size_setCell] at hsz2 hsy2); replace HS := Lib.hid hd2.src; clear hka hkb hd2 hlS2; have hlS2 := HS.out.lt
  have HM := Lib.hid (Blk.new w2 73 #[.int .i64 x2, .int .i64 y2])
  replace HR1 := Lib.hid (Blk.alloc (.cells #[.int .i64 x2, .int .i64 y2] 73) HR1.out)
  replace HR2 := Lib.hid (Blk.alloc (.cells #[.int .i64 x2, .int .i64 y2] 73) HR2.out)
  replace HS := Lib.hid (Src.alloc (.cells #[.int .i64 x2, .int .i64 y2] 73) HS.out)
  replace HK := Lib.hid (Kp.alloc (.cells #[.int .i64 x2, .int .i64 y2] 73) HK.out)
  have hlM := HM.out.lt
  go_wp2_with fail
  go_at_call 136; refine (drawScale_c X A zs _ (by repeat (with_reducible first | exact HS.out | refine Src.alloc _ ?_ | refine Src.drew ?_ | refine Src.drewN _ ?_ | (refine Src.far _ ?_ ?_; (have := HS.out.lt; first | omega | (simp; omega))) | (refine Src.setRow _ ?_ ?_; (have := HS.out.lt; first | omega | (simp; omega)))))).mono ?_; rintro e w3 ⟨x3, rfl, hd3⟩; have hkb := hd3.kp; have hka := Kp.ka HK.out hkb (by repeat (with_reducible first | exact Kp.refl _ _ | refine Kp.alloc _ ?_ | refine Kp.drew ?_ | refine Kp.drewN _ ?_)); have hlS3 := HS.out.lt; (try (replace HR1 := Lib.hid (Blk.kp2 hka hkb (by first | omega | (simp; omega)) (by first | omega | (simp; omega)) HR1.out))); (try (replace HR2 := Lib.hid (Blk.kp2 hka hkb (by first | omega | (simp; omega)) (by first | omega | (simp; omega)) HR2.out))); (try (replace HM := Lib.hid (Blk.kp2 hka hkb (by first | omega | (simp; omega)) (by first | omega | (simp; omega)) HM.out))); replace HK := Lib.hid (Kp.trans HK.out (Kp.trans hka hkb)); have hsz3 := hkb.size_; have hsy3 := hka.size_; (try simp only [World.size_alloc, World.size_drew, World.heap_drewN, World.size_setCell] at hsz3 hsy3); replace HS := Lib.hid hd3.src; clear hka hkb hd3 hlS3; have hlS3 := HS.out.lt
  have hs4 := HM.out.lt
  go_upto_region 4 with (fail)
  refine wp_region_held_drew (S := fun W => Blk W w2.heap.size 73 #[.int .i64 x2, .int .i64 y2] ∧ True) (by kernel_rfl) (⟨HM.out.drew, trivial⟩) (fun hHeld => ?_)
  replace HM := Lib.hid HM.out.drew
  replace HR1 := Lib.hid HR1.out.drew
  replace HR2 := Lib.hid HR2.out.drew
  replace HS := Lib.hid HS.out.drew
  replace HK := Lib.hid HK.out.drew
  have hs5 : w3.drew.heap.size = w3.heap.size := rfl
  rw [← hs5] at hs4
  clear hs5
  generalize w3.drew = w5 at HM HR1 HR2 HS HK hHeld hs4 ⊢
  refine wpAnyH_take (i := 0) (v := .agg #[.int .i64 x2, .int .i64 y2]) rfl (by kernel_rfl) (by kernel_rfl) (by kernel_rfl) (fun _ _ _ h => h) (yieldsIf_load_blk 73 _ (w2.heap.size) (fun _ h => h.1) Try.underlying73 (by kernel_rfl) (by rfl) rfl rfl) hHeld ?_
  simp only [Act.put, List.getElem_toArray, List.getElem_cons_succ, List.getElem_cons_zero, List.setIfInBounds_toArray, List.set_cons_zero, List.set_cons_succ]
  refine wpAnyH_take (i := 1) (v := (.int .i64 x3)) rfl (by kernel_rfl) (by kernel_rfl) (by kernel_rfl) (fun _ _ _ h => h) (Or.inl ⟨by rfl, fun w _ => by simp [go_sem, execOp]⟩) hHeld ?_
  simp only [Act.put, List.getElem_toArray, List.getElem_cons_succ, List.getElem_cons_zero, List.setIfInBounds_toArray, List.set_cons_zero, List.set_cons_succ]
  refine wpAnyH_take (i := 2) (v := (.pointer (some ⟨X, 0, none⟩))) rfl (by kernel_rfl) (by kernel_rfl) (by kernel_rfl) (fun _ _ _ h => h) (Or.inl ⟨by rfl, fun w _ => by simp [go_sem, execOp]⟩) hHeld ?_
  simp only [Act.put, List.getElem_toArray, List.getElem_cons_succ, List.getElem_cons_zero, List.setIfInBounds_toArray, List.set_cons_zero, List.set_cons_succ]
  refine wpAnyH_take (i := 3) (v := (.int .i64 x3)) rfl (by kernel_rfl) (by kernel_rfl) (by kernel_rfl) (fun _ _ _ h => h) (Or.inl ⟨by rfl, fun w _ => by simp [go_sem, execOp]⟩) hHeld ?_
  simp only [Act.put, List.getElem_toArray, List.getElem_cons_succ, List.getElem_cons_zero, List.setIfInBounds_toArray, List.set_cons_zero, List.set_cons_succ]
  refine wpAnyH_ready (rs := [4]) (by kernel_rfl) (by simp) ?_
  refine AllReadyH.cons rfl (fun K hK => ?_) AllReadyH.nil
  go_simp
  go_at_call 137; refine (drawFigure_c X A zs _ _ (by repeat (with_reducible first | exact HS.out | refine Src.alloc _ ?_ | refine Src.drew ?_ | refine Src.drewN _ ?_ | (refine Src.far _ ?_ ?_; (have := HS.out.lt; first | omega | (simp; omega))) | (refine Src.setRow _ ?_ ?_; (have := HS.out.lt; first | omega | (simp; omega)))))).mono ?_; rintro e w6 ⟨d6, t6, rfl, ho6, hd6⟩; clear ho6; have hkb := hd6.kp; have hka := Kp.ka HK.out hkb (by repeat (with_reducible first | exact Kp.refl _ _ | refine Kp.alloc _ ?_ | refine Kp.drew ?_ | refine Kp.drewN _ ?_)); have hlS6 := HS.out.lt; (try (replace HM := Lib.hid (Blk.kp2 hka hkb (by first | omega | (simp; omega)) (by first | omega | (simp; omega)) HM.out))); (try (replace HR1 := Lib.hid (Blk.kp2 hka hkb (by first | omega | (simp; omega)) (by first | omega | (simp; omega)) HR1.out))); (try (replace HR2 := Lib.hid (Blk.kp2 hka hkb (by first | omega | (simp; omega)) (by first | omega | (simp; omega)) HR2.out))); replace HK := Lib.hid (Kp.trans HK.out (Kp.trans hka hkb)); have hsz6 := hkb.size_; have hsy6 := hka.size_; (try simp only [World.size_alloc, World.size_drew, World.heap_drewN, World.size_setCell] at hsz6 hsy6); replace HS := Lib.hid hd6.src; clear hka hkb hd6 hlS6; have hlS6 := HS.out.lt
  go_wp2_with fail
  refine hK.out _ _ (⟨HM.out, trivial⟩) (fun hHeld => ?_)
  clear hK K
  try simp only [Act.put, List.setIfInBounds_toArray, List.set_cons_zero, List.set_cons_succ]
  refine wpAnyH_ready (rs := [5]) (by kernel_rfl) (by simp) ?_
  refine AllReadyH.cons rfl (fun K hK => ?_) AllReadyH.nil
  refine step_store_part 73 _ _ _ 0 (.agg #[.int .i64 x2, .int .i64 y2]) #[.int .i64 x2, .int .i64 y2] (Blk.kp (Kp.ka0 HK.out (by repeat (with_reducible first | exact Kp.refl _ _ | refine Kp.alloc _ ?_ | refine Kp.drew ?_ | refine Kp.drewN _ ?_))) (by first | omega | (simp; omega)) HR1.out) rfl rfl rfl rfl rfl (by rfl) (by kernel_rfl) (by simp [Value.oneCell']) (by simp) ?_; intro wS hBS hkb; simp only [setL, List.setIfInBounds_toArray, List.set_cons_zero, List.set_cons_succ] at hBS; have hka := Kp.ka HK.out hkb (by repeat (with_reducible first | exact Kp.refl _ _ | refine Kp.alloc _ ?_ | refine Kp.drew ?_ | refine Kp.drewN _ ?_)); have hlSo := HS.out.lt; (try (replace HM := Lib.hid (Blk.kp2 hka hkb (by first | omega | (simp; omega)) (by first | omega | (simp; omega)) HM.out))); (try (replace HR2 := Lib.hid (Blk.kp2 hka hkb (by first | omega | (simp; omega)) (by first | omega | (simp; omega)) HR2.out))); (try replace HS := Lib.hid (Src.kpg2 HS.out (by repeat (with_reducible first | exact Below.refl _ _ | refine Bel.alloc ?_ _ | refine Below.drew ?_ | refine Bel.drewN ?_ _)) hkb (by first | omega | (simp; omega)))); replace HR1 := Lib.hid hBS; replace HK := Lib.hid (Kp.own hkb (by first | omega | (simp; omega)) (Kp.trans HK.out hka)); have hszS := hkb.size_; have hsyS := hka.size_; (try simp only [World.size_alloc, World.size_drew, World.heap_drewN, World.size_setCell] at hszS hsyS); clear hBS hka hkb hlSo; have hlSS := HS.out.lt
  refine hK.out _ _ (⟨HM.out, trivial⟩) (fun hHeld => ?_)
  clear hK K
  try simp only [Act.put, List.setIfInBounds_toArray, List.set_cons_zero, List.set_cons_succ]
  refine wpAnyH_take (i := 6) (v := (.int .i64 x3)) rfl (by kernel_rfl) (by kernel_rfl) (by kernel_rfl) (fun _ _ _ h => h) (Or.inl ⟨by rfl, fun w _ => by simp [go_sem, execOp]⟩) hHeld ?_
  simp only [Act.put, List.getElem_toArray, List.getElem_cons_succ, List.getElem_cons_zero, List.setIfInBounds_toArray, List.set_cons_zero, List.set_cons_succ]
  refine wpAnyH_take (i := 7) (v := (.int .i64 25000)) rfl (by kernel_rfl) (by kernel_rfl) (by kernel_rfl) (fun _ _ _ h => h) (Or.inl ⟨by rfl, fun w _ => by simp [go_sem, execOp]⟩) hHeld ?_
  simp only [Act.put, List.getElem_toArray, List.getElem_cons_succ, List.getElem_cons_zero, List.setIfInBounds_toArray, List.set_cons_zero, List.set_cons_succ]
  refine wpAnyH_ready (rs := [8]) (by kernel_rfl) (by simp) ?_
  refine AllReadyH.cons rfl (fun K hK => ?_) AllReadyH.nil
  refine step_store_part 25 _ _ _ 0 (.agg #[.int .i64 d6, .int .i64 t6]) #[.int .i64 d6, .int .i64 t6] (Blk.kp (Kp.ka0 HK.out (by repeat (with_reducible first | exact Kp.refl _ _ | refine Kp.alloc _ ?_ | refine Kp.drew ?_ | refine Kp.drewN _ ?_))) (by first | omega | (simp; omega)) HR2.out) rfl rfl rfl rfl rfl (by rfl) (by kernel_rfl) (by simp [Value.oneCell']) (by simp) ?_; intro wS hBS hkb; simp only [setL, List.setIfInBounds_toArray, List.set_cons_zero, List.set_cons_succ] at hBS; have hka := Kp.ka HK.out hkb (by repeat (with_reducible first | exact Kp.refl _ _ | refine Kp.alloc _ ?_ | refine Kp.drew ?_ | refine Kp.drewN _ ?_)); have hlSo := HS.out.lt; (try (replace HM := Lib.hid (Blk.kp2 hka hkb (by first | omega | (simp; omega)) (by first | omega | (simp; omega)) HM.out))); (try (replace HR1 := Lib.hid (Blk.kp2 hka hkb (by first | omega | (simp; omega)) (by first | omega | (simp; omega)) HR1.out))); (try replace HS := Lib.hid (Src.kpg2 HS.out (by repeat (with_reducible first | exact Below.refl _ _ | refine Bel.alloc ?_ _ | refine Below.drew ?_ | refine Bel.drewN ?_ _)) hkb (by first | omega | (simp; omega)))); replace HR2 := Lib.hid hBS; replace HK := Lib.hid (Kp.own hkb (by first | omega | (simp; omega)) (Kp.trans HK.out hka)); have hszS := hkb.size_; have hsyS := hka.size_; (try simp only [World.size_alloc, World.size_drew, World.heap_drewN, World.size_setCell] at hszS hsyS); clear hBS hka hkb hlSo; have hlSS := HS.out.lt
  refine hK.out _ _ (⟨HM.out, trivial⟩) (fun hHeld => ?_)
  clear hK K
  try simp only [Act.put, List.setIfInBounds_toArray, List.set_cons_zero, List.set_cons_succ]
  refine wpAnyH_done (by kernel_rfl) ?_ _
  go_wp2
  exact bodyPost_ret (results_4 rfl (resF_cell HR1.out Try.underlying73 (by kernel_rfl) rfl) (resF_tmp _ rfl) (resF_tmp _ rfl) (resF_cell HR2.out Try.underlying25 (by kernel_rfl) rfl)) rfl ⟨x2, y2, x3, d6, t6, rfl, Kp.toBel HK.out (by omega)⟩
end Go.Proofs.Ytpmcgicopogbhaa
