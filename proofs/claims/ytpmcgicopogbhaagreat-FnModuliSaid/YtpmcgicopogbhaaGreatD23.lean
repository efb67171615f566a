/- Draws: charts. Conditions: as stated at each contract. -/
import Derived.Test.YtpmcgicopogbhaaGreatProg
import Derived.Test.YtpmcgicopogbhaaGreatBase
import Derived.Test.YtpmcgicopogbhaaGreatZz
import Derived.Test.YtpmcgicopogbhaaGreatRw
import Derived.Test.YtpmcgicopogbhaaGreatRg
import Derived.Test.YtpmcgicopogbhaaGreatL01
import Derived.Test.YtpmcgicopogbhaaGreatCp
import Derived.Test.YtpmcgicopogbhaaGreatCm
import Derived.Test.YtpmcgicopogbhaaGreatL18
import Derived.Test.YtpmcgicopogbhaaGreatD00
import Derived.Test.YtpmcgicopogbhaaGreatD01
import Derived.Test.YtpmcgicopogbhaaGreatD02
import Derived.Test.YtpmcgicopogbhaaGreatD18
import Derived.WalkKit
import Derived.WalkSpells
import Derived.WalkLawsBesides
import Derived.Lib.Hide
import Derived.Deep.QuietTactic
import Derived.BigQuiet
import Derived.Deep.Draws
import Derived.Deep.RegionHeld3
import Derived.Deep.Cut
namespace Go.Proofs.YtpmcgicopogbhaaGreat
open Go.RowKit
set_option linter.unusedVariables false
set_option linter.unusedSimpArgs false
/-- A call that draws a chart whose exponents lie in memory of its own; ok: it is valid. -/
def DrCh (ok : Bool) (X : Nat) (A : Option Addr) (zs : List Int) (w : World) (e : Ending) (w' : World) : Prop := ∃ (C : Ch) (g c : Nat), e = .returned (.agg #[.int .i64 C.dg, .int .i64 C.tn, .string C.nm, .slice (some ⟨g, 0, none⟩) C.zs.length c, .int .i64 C.wd, .int .i64 C.lf, .int .i64 C.rt]) ∧ (ok = true → okCh C = true) ∧ C.zs.length ≤ 27 ∧ C.nm.size ≤ 27 ∧ Own w' w.heap.size 2 (.slice (some ⟨g, 0, none⟩) C.zs.length c) C.zs ∧ Dr X A zs w w'
set_option maxRecDepth 20000 in
set_option maxHeartbeats 2000000 in
theorem l23Valid_c (X : Nat) (A : Option Addr) (zs : List Int) (w : World) (hS : Src w X A zs) :
    Calls Tryz.prog 95 #[.pointer (some ⟨X, 0, none⟩)] w (DrCh true X A zs w) := by
  have hlX := hS.lt
  have HS := Lib.hid (Src.alloc (.cells #[.int .i64 0, .int .i64 0, .string ⟨#[]⟩, .slice none 0 0, .int .i64 0, .int .i64 0, .int .i64 0] 30) hS)
  have HK := Lib.hid (Kp.alloc (.cells #[.int .i64 0, .int .i64 0, .string ⟨#[]⟩, .slice none 0 0, .int .i64 0, .int .i64 0, .int .i64 0] 30) (Kp.refl X w))
  have HR := Lib.hid (Blk.new w 30 #[.int .i64 0, .int .i64 0, .string ⟨#[]⟩, .slice none 0 0, .int .i64 0, .int .i64 0, .int .i64 0])
  clear hS
  go_enter Tryz.func95, Tryz.ntmps95
  go_wp2_with fail
  go_at_call 96; refine (l02Valid_c X A zs _ (zsr HS)).mono ?_; rintro e w1 ⟨d1, t1, rfl, ho1, hd1⟩; have HO1 := Lib.hid ho1; clear ho1; have hkb := hd1.kp; have hka := zka HK hkb; have hlS1 := HS.out.lt; (try replace HR := zb hka hkb HR); replace HK := zt HK hka hkb; have hsz1 := hkb.size_; have hsy1 := hka.size_; (try simp only [World.size_alloc, World.size_drew, World.heap_drewN, World.size_setCell] at hsz1 hsy1); replace HS := Lib.hid hd1.src; clear hka hkb hd1 hlS1; have hlS1 := HS.out.lt
  go_wp2_with fail
  go_at_call 79; refine (l01Pick_c X A zs _ _ 2 _ _ (zsr HS) (by repeat (first | exact Blk.new _ _ _ | refine Blk.alloc _ ?_)) (by rfl) (by omega) (by omega) (by simp [isI]) (Nat.ne_of_gt (by have := HS.out.lt; first | omega | (simp; omega)))).mono ?_; rintro e w2 ⟨x2, i2, hi2, hp2, rfl, hd2⟩; have HP2 := Lib.hid hp2; clear hp2; have hkb := hd2.kp; have hka := zka HK hkb; have hlS2 := HS.out.lt; (try replace HR := zb hka hkb HR); replace HK := zt HK hka hkb; have hsz2 := hkb.size_; have hsy2 := hka.size_; (try simp only [World.size_alloc, World.size_drew, World.heap_drewN, World.size_setCell] at hsz2 hsy2); replace HS := Lib.hid hd2.src; clear hka hkb hd2 hlS2; have hlS2 := HS.out.lt
  go_wp2_with fail
  go_at_call 79; refine (l01Pick_c X A zs _ _ 2 _ _ (zsr HS) (by repeat (first | exact Blk.new _ _ _ | refine Blk.alloc _ ?_)) (by rfl) (by omega) (by omega) (by simp [isI]) (Nat.ne_of_gt (by have := HS.out.lt; first | omega | (simp; omega)))).mono ?_; rintro e w3 ⟨x3, i3, hi3, hp3, rfl, hd3⟩; have HP3 := Lib.hid hp3; clear hp3; have hkb := hd3.kp; have hka := zka HK hkb; have hlS3 := HS.out.lt; (try replace HR := zb hka hkb HR); replace HK := zt HK hka hkb; have hsz3 := hkb.size_; have hsy3 := hka.size_; (try simp only [World.size_alloc, World.size_drew, World.heap_drewN, World.size_setCell] at hsz3 hsy3); replace HS := Lib.hid hd3.src; clear hka hkb hd3 hlS3; have hlS3 := HS.out.lt
  go_upto_region 2 with (fail)
  have HN := Lib.hid (Blk.new w3 2 #[.int .i64 x2, .int .i64 x3])
  replace HR := Lib.hid (Blk.alloc (.cells #[.int .i64 x2, .int .i64 x3] 2) HR.out)
  replace HS := Lib.hid (Src.alloc (.cells #[.int .i64 x2, .int .i64 x3] 2) HS.out)
  replace HK := Lib.hid (Kp.alloc (.cells #[.int .i64 x2, .int .i64 x3] 2) HK.out)
  have HF := Lib.hid (by have h := Blk.new (w3.alloc (.cells #[.int .i64 x2, .int .i64 x3] 2)) 28 #[.int .i64 d1, .int .i64 t1, .string ⟨#[117, 118]⟩, .slice (some ⟨w3.heap.size, 0, none⟩) 2 2]; simp only [World.size_alloc] at h; exact h)
  replace HR := Lib.hid (Blk.alloc (.cells #[.int .i64 d1, .int .i64 t1, .string ⟨#[117, 118]⟩, .slice (some ⟨w3.heap.size, 0, none⟩) 2 2] 28) HR.out)
  replace HN := Lib.hid (Blk.alloc (.cells #[.int .i64 d1, .int .i64 t1, .string ⟨#[117, 118]⟩, .slice (some ⟨w3.heap.size, 0, none⟩) 2 2] 28) HN.out)
  replace HS := Lib.hid (Src.alloc (.cells #[.int .i64 d1, .int .i64 t1, .string ⟨#[117, 118]⟩, .slice (some ⟨w3.heap.size, 0, none⟩) 2 2] 28) HS.out)
  replace HK := Lib.hid (Kp.alloc (.cells #[.int .i64 d1, .int .i64 t1, .string ⟨#[117, 118]⟩, .slice (some ⟨w3.heap.size, 0, none⟩) 2 2] 28) HK.out)
  generalize (w3.alloc (.cells #[.int .i64 x2, .int .i64 x3] 2)).alloc (.cells #[.int .i64 d1, .int .i64 t1, .string ⟨#[117, 118]⟩, .slice (some ⟨w3.heap.size, 0, none⟩) 2 2] 28) = w4 at HF HR HN HS HK ⊢
  have hs4 := HF.out.lt
  refine wp_region_held_drew (S := fun W => Blk W (w3.heap.size + 1) 28 #[.int .i64 d1, .int .i64 t1, .string ⟨#[117, 118]⟩, .slice (some ⟨w3.heap.size, 0, none⟩) 2 2] ∧ True) (by kernel_rfl) (⟨HF.out.drew, trivial⟩) (fun hHeld => ?_)
  replace HF := Lib.hid HF.out.drew
  replace HR := Lib.hid HR.out.drew
  replace HN := Lib.hid HN.out.drew
  replace HS := Lib.hid HS.out.drew
  replace HK := Lib.hid HK.out.drew
  have hs5 : w4.drew.heap.size = w4.heap.size := rfl
  rw [← hs5] at hs4
  clear hs5
  generalize w4.drew = w5 at HF HR HN HS HK hHeld hs4 ⊢
  refine wpAnyH_take (i := 0) (v := .agg #[.int .i64 d1, .int .i64 t1, .string ⟨#[117, 118]⟩, .slice (some ⟨w3.heap.size, 0, none⟩) 2 2]) rfl (by kernel_rfl) (by kernel_rfl) (by kernel_rfl) (fun _ _ _ h => h) (yieldsIf_load_blk 28 _ ((w3.heap.size + 1)) (fun _ h => h.1) Tryz.underlying28 (by kernel_rfl) (by rfl) rfl rfl) hHeld ?_
  try simp only [Act.put, List.setIfInBounds_toArray, List.set_cons_zero, List.set_cons_succ]
  refine wpAnyH_take (i := 1) (v := (.pointer (some ⟨X, 0, none⟩))) rfl (by kernel_rfl) (by kernel_rfl) (by kernel_rfl) (fun _ _ _ h => h) (Or.inl ⟨by rfl, fun w _ => by simp [go_sem, execOp]⟩) hHeld ?_
  try simp only [Act.put, List.setIfInBounds_toArray, List.set_cons_zero, List.set_cons_succ]
  refine wpAnyH_take (i := 5) (v := (.pointer (some ⟨X, 0, none⟩))) rfl (by kernel_rfl) (by kernel_rfl) (by kernel_rfl) (fun _ _ _ h => h) (Or.inl ⟨by rfl, fun w _ => by simp [go_sem, execOp]⟩) hHeld ?_
  try simp only [Act.put, List.setIfInBounds_toArray, List.set_cons_zero, List.set_cons_succ]
  refine wpAnyH_take (i := 9) (v := (.pointer (some ⟨X, 0, none⟩))) rfl (by kernel_rfl) (by kernel_rfl) (by kernel_rfl) (fun _ _ _ h => h) (Or.inl ⟨by rfl, fun w _ => by simp [go_sem, execOp]⟩) hHeld ?_
  try simp only [Act.put, List.setIfInBounds_toArray, List.set_cons_zero, List.set_cons_succ]
  refine wpAnyH_ready (rs := [2]) (by kernel_rfl) (by simp) ?_
  refine AllReadyH.cons rfl (fun K hK => ?_) AllReadyH.nil
  go_simp
  go_at_call 46; refine (l01Next_c X A zs _ (by omega) _ (zsr HS)).mono ?_; rintro e w6 ⟨x6, rfl, hx6, hy6, hd6⟩; (try rw [Int.max_eq_left (by omega)] at hy6); have hkb := hd6.kp; have hka := zka HK hkb; have hlS6 := HS.out.lt; (try replace HR := zb hka hkb HR); (try replace HN := zb hka hkb HN); (try replace HF := zb hka hkb HF); replace HK := zt HK hka hkb; have hsz6 := hkb.size_; have hsy6 := hka.size_; (try simp only [World.size_alloc, World.size_drew, World.heap_drewN, World.size_setCell] at hsz6 hsy6); replace HS := Lib.hid hd6.src; clear hka hkb hd6 hlS6; have hlS6 := HS.out.lt
  go_wp2_with fail
  refine hK.out _ _ (⟨HF.out, trivial⟩) (fun hHeld => ?_)
  clear hK K
  try simp only [Act.put, List.setIfInBounds_toArray, List.set_cons_zero, List.set_cons_succ]
  refine wpAnyH_take (i := 3) (v := (.int .i64 (IntKind.i64.wrap (100 * x6)))) rfl (by kernel_rfl) (by kernel_rfl) (by kernel_rfl) (fun _ _ _ h => h) (Or.inl ⟨by rfl, fun w _ => by simp [go_sem, execOp]⟩) hHeld ?_
  try simp only [Act.put, List.setIfInBounds_toArray, List.set_cons_zero, List.set_cons_succ]
  refine wpAnyH_take (i := 4) (v := (.int .i64 (IntKind.i64.wrap (10000 + IntKind.i64.wrap (100 * x6))))) rfl (by kernel_rfl) (by kernel_rfl) (by kernel_rfl) (fun _ _ _ h => h) (Or.inl ⟨by rfl, fun w _ => by simp [go_sem, execOp]⟩) hHeld ?_
  try simp only [Act.put, List.setIfInBounds_toArray, List.set_cons_zero, List.set_cons_succ]
  refine wpAnyH_ready (rs := [6]) (by kernel_rfl) (by simp) ?_
  refine AllReadyH.cons rfl (fun K hK => ?_) AllReadyH.nil
  go_simp
  go_at_call 46; refine (l01Next_c X A zs _ (by omega) _ (zsr HS)).mono ?_; rintro e w7 ⟨x7, rfl, hx7, hy7, hd7⟩; (try rw [Int.max_eq_left (by omega)] at hy7); have hkb := hd7.kp; have hka := zka HK hkb; have hlS7 := HS.out.lt; (try replace HR := zb hka hkb HR); (try replace HN := zb hka hkb HN); (try replace HF := zb hka hkb HF); replace HK := zt HK hka hkb; have hsz7 := hkb.size_; have hsy7 := hka.size_; (try simp only [World.size_alloc, World.size_drew, World.heap_drewN, World.size_setCell] at hsz7 hsy7); replace HS := Lib.hid hd7.src; clear hka hkb hd7 hlS7; have hlS7 := HS.out.lt
  go_wp2_with fail
  refine hK.out _ _ (⟨HF.out, trivial⟩) (fun hHeld => ?_)
  clear hK K
  try simp only [Act.put, List.setIfInBounds_toArray, List.set_cons_zero, List.set_cons_succ]
  refine wpAnyH_take (i := 7) (v := (.int .i64 (IntKind.i64.wrap (100 * x7)))) rfl (by kernel_rfl) (by kernel_rfl) (by kernel_rfl) (fun _ _ _ h => h) (Or.inl ⟨by rfl, fun w _ => by simp [go_sem, execOp]⟩) hHeld ?_
  try simp only [Act.put, List.setIfInBounds_toArray, List.set_cons_zero, List.set_cons_succ]
  refine wpAnyH_take (i := 8) (v := (.int .i64 (IntKind.i64.wrap (1000 + IntKind.i64.wrap (100 * x7))))) rfl (by kernel_rfl) (by kernel_rfl) (by kernel_rfl) (fun _ _ _ h => h) (Or.inl ⟨by rfl, fun w _ => by simp [go_sem, execOp]⟩) hHeld ?_
  try simp only [Act.put, List.setIfInBounds_toArray, List.set_cons_zero, List.set_cons_succ]
  refine wpAnyH_ready (rs := [10]) (by kernel_rfl) (by simp) ?_
  refine AllReadyH.cons rfl (fun K hK => ?_) AllReadyH.nil
  go_simp
  go_at_call 46; refine (l01Next_c X A zs _ (by omega) _ (zsr HS)).mono ?_; rintro e w8 ⟨x8, rfl, hx8, hy8, hd8⟩; (try rw [Int.max_eq_left (by omega)] at hy8); have hkb := hd8.kp; have hka := zka HK hkb; have hlS8 := HS.out.lt; (try replace HR := zb hka hkb HR); (try replace HN := zb hka hkb HN); (try replace HF := zb hka hkb HF); replace HK := zt HK hka hkb; have hsz8 := hkb.size_; have hsy8 := hka.size_; (try simp only [World.size_alloc, World.size_drew, World.heap_drewN, World.size_setCell] at hsz8 hsy8); replace HS := Lib.hid hd8.src; clear hka hkb hd8 hlS8; have hlS8 := HS.out.lt
  go_wp2_with fail
  refine hK.out _ _ (⟨HF.out, trivial⟩) (fun hHeld => ?_)
  clear hK K
  try simp only [Act.put, List.setIfInBounds_toArray, List.set_cons_zero, List.set_cons_succ]
  refine wpAnyH_take (i := 11) (v := (.int .i64 (IntKind.i64.wrap (100 * x8)))) rfl (by kernel_rfl) (by kernel_rfl) (by kernel_rfl) (fun _ _ _ h => h) (Or.inl ⟨by rfl, fun w _ => by simp [go_sem, execOp]⟩) hHeld ?_
  try simp only [Act.put, List.setIfInBounds_toArray, List.set_cons_zero, List.set_cons_succ]
  refine wpAnyH_take (i := 12) (v := (.int .i64 (IntKind.i64.wrap (1000 + IntKind.i64.wrap (100 * x8))))) rfl (by kernel_rfl) (by kernel_rfl) (by kernel_rfl) (fun _ _ _ h => h) (Or.inl ⟨by rfl, fun w _ => by simp [go_sem, execOp]⟩) hHeld ?_
  simp only [Act.put, List.getElem_toArray, List.getElem_cons_succ, List.getElem_cons_zero, List.setIfInBounds_toArray, List.set_cons_zero, List.set_cons_succ]
  rw [show IntKind.i64.wrap (10000 + IntKind.i64.wrap (100 * x6)) = 10000 + 100 * x6 from by rw [wr64 (x := 100 * x6) (by omega) (by omega), wr64 (by omega) (by omega)], show IntKind.i64.wrap (1000 + IntKind.i64.wrap (100 * x7)) = 1000 + 100 * x7 from by rw [wr64 (x := 100 * x7) (by omega) (by omega), wr64 (by omega) (by omega)], show IntKind.i64.wrap (1000 + IntKind.i64.wrap (100 * x8)) = 1000 + 100 * x8 from by rw [wr64 (x := 100 * x8) (by omega) (by omega), wr64 (by omega) (by omega)]]
  refine wpAnyH_take (i := 13) (v := (.agg #[.int .i64 d1, .int .i64 t1, .string ⟨#[117, 118]⟩, .slice (some ⟨w3.heap.size, 0, none⟩) 2 2, .int .i64 (10000 + 100 * x6), .int .i64 (1000 + 100 * x7), .int .i64 (1000 + 100 * x8)])) rfl (by kernel_rfl) (by kernel_rfl) (by kernel_rfl) (fun _ _ _ h => h) (Or.inl ⟨by rfl, fun w _ => by simp [go_sem, execOp]⟩) hHeld ?_
  simp only [Act.put, List.getElem_toArray, List.getElem_cons_succ, List.getElem_cons_zero, List.setIfInBounds_toArray, List.set_cons_zero, List.set_cons_succ]
  refine wpAnyH_ready (rs := [14]) (by kernel_rfl) (by simp) ?_
  refine AllReadyH.cons rfl (fun K hK => ?_) AllReadyH.nil
  refine step_store_part 30 _ _ _ 0 (.agg #[.int .i64 d1, .int .i64 t1, .string ⟨#[117, 118]⟩, .slice (some ⟨w3.heap.size, 0, none⟩) 2 2, .int .i64 (10000 + 100 * x6), .int .i64 (1000 + 100 * x7), .int .i64 (1000 + 100 * x8)]) #[.int .i64 d1, .int .i64 t1, .string ⟨#[117, 118]⟩, .slice (some ⟨w3.heap.size, 0, none⟩) 2 2, .int .i64 (10000 + 100 * x6), .int .i64 (1000 + 100 * x7), .int .i64 (1000 + 100 * x8)] (Blk.kp (zk0 HK) (by first | omega | (simp; omega)) HR.out) rfl rfl rfl rfl rfl (by rfl) (by kernel_rfl) (by simp [Value.oneCell']) (by simp) ?_; intro wS hBS hkb; simp only [setL, List.setIfInBounds_toArray, List.set_cons_zero, List.set_cons_succ] at hBS; have hka := zka HK hkb; have hlSo := HS.out.lt; (try replace HN := zb hka hkb HN); (try replace HF := zb hka hkb HF); (try replace HS := Lib.hid (Src.kpg2 HS.out (by repeat (with_reducible first | exact Below.refl _ _ | refine Bel.alloc ?_ _ | refine Below.drew ?_ | refine Bel.drewN ?_ _)) hkb (by first | omega | (simp; omega)))); replace HR := Lib.hid hBS; replace HK := Lib.hid (Kp.own hkb (by first | omega | (simp; omega)) (Kp.trans HK.out hka)); have hszS := hkb.size_; have hsyS := hka.size_; (try simp only [World.size_alloc, World.size_drew, World.heap_drewN, World.size_setCell] at hszS hsyS); clear hBS hka hkb hlSo; have hlSS := HS.out.lt
  refine hK.out _ _ (⟨HF.out, trivial⟩) (fun hHeld => ?_)
  clear hK K
  try simp only [Act.put, List.setIfInBounds_toArray, List.set_cons_zero, List.set_cons_succ]
  refine wpAnyH_done (by kernel_rfl) ?_ _
  go_wp2
  have hP0 : x2 = 1 ∨ x2 = 2 ∨ x2 = -1 := by
    have h := HP2.out
    have : i2 = 0 ∨ i2 = 1 ∨ i2 = 2 ∨ i2 = 3 := by have : i2 < 4 := hi2; omega
    rcases this with rfl | rfl | rfl | rfl <;> (simp at h; omega)
  have hP1 : x3 = 1 ∨ x3 = 3 ∨ x3 = -1 := by
    have h := HP3.out
    have : i3 = 0 ∨ i3 = 1 ∨ i3 = 2 ∨ i3 = 3 := by have : i3 < 4 := hi3; omega
    rcases this with rfl | rfl | rfl | rfl <;> (simp at h; omega)
  have hok : okCh ⟨d1, t1, ⟨#[117, 118]⟩, [x2, x3], 10000 + 100 * x6, 1000 + 100 * x7, 1000 + 100 * x8⟩ = true := by
    have h1 := HO1.out (by first | trivial | rfl)
    simp only [okCh, okFm, Bool.and_eq_true, decide_eq_true_eq, inB_iff]
    refine ⟨⟨⟨⟨⟨⟨⟨h1, by decide⟩, rfl⟩, ?_⟩, rfl⟩, by omega, by omega⟩, by omega, by omega⟩, by omega, by omega⟩
    rcases hP0 with rfl | rfl | rfl <;> rcases hP1 with rfl | rfl | rfl <;> decide
  exact bodyPost_ret (results_blk HR.out Tryz.underlying30 (by kernel_rfl) rfl rfl) rfl ⟨⟨d1, t1, ⟨#[117, 118]⟩, [x2, x3], 10000 + 100 * x6, 1000 + 100 * x7, 1000 + 100 * x8⟩, w3.heap.size, 2, rfl, fun _ => hok, by simp, by (show (⟨#[117, 118]⟩ : ByteArray).size ≤ 27); decide, Own.of_blk (zs := [x2, x3]) HN.out (by omega) (by unfold maxLen; simp), HS.out, HK.out⟩
set_option maxRecDepth 20000 in
set_option maxHeartbeats 2000000 in
theorem l23Draw_c (X : Nat) (A : Option Addr) (zs : List Int) (w : World) (hS : Src w X A zs) :
    Calls Tryz.prog 51 #[.pointer (some ⟨X, 0, none⟩)] w (DrCh false X A zs w) := by
  have hlX := hS.lt
  have HS := Lib.hid (Src.alloc (.cells #[.int .i64 0, .int .i64 0, .string ⟨#[]⟩, .slice none 0 0, .int .i64 0, .int .i64 0, .int .i64 0] 30) hS)
  have HK := Lib.hid (Kp.alloc (.cells #[.int .i64 0, .int .i64 0, .string ⟨#[]⟩, .slice none 0 0, .int .i64 0, .int .i64 0, .int .i64 0] 30) (Kp.refl X w))
  have HR := Lib.hid (Blk.new w 30 #[.int .i64 0, .int .i64 0, .string ⟨#[]⟩, .slice none 0 0, .int .i64 0, .int .i64 0, .int .i64 0])
  clear hS
  go_enter Tryz.func51, Tryz.ntmps51
  go_wp2_with fail
  go_at_call 95; refine (l23Valid_c X A zs _ (zsr HS)).mono ?_; rintro e w1 ⟨C1, g1, c1, rfl, ho1, hn1, hm1, hO1, hd1⟩; obtain ⟨hq1, hr1⟩ := World.ownsRow.lt hO1 g1 rfl; (try simp only [World.size_alloc] at hq1); have HO1 := Lib.hid hO1; have HV1 := Lib.hid ho1; clear hO1 ho1; have hkb := hd1.kp; have hka := zka HK hkb; have hlS1 := HS.out.lt; (try replace HR := zb hka hkb HR); replace HK := zt HK hka hkb; have hsz1 := hkb.size_; have hsy1 := hka.size_; (try simp only [World.size_alloc, World.size_drew, World.heap_drewN, World.size_setCell] at hsz1 hsy1); replace HS := Lib.hid hd1.src; clear hka hkb hd1 hlS1; have hlS1 := HS.out.lt
  have HF := Lib.hid (Blk.new w1 30 #[.int .i64 C1.dg, .int .i64 C1.tn, .string C1.nm, .slice (some ⟨g1, 0, none⟩) C1.zs.length c1, .int .i64 C1.wd, .int .i64 C1.lf, .int .i64 C1.rt])
  replace HR := Lib.hid (Blk.alloc (.cells #[.int .i64 C1.dg, .int .i64 C1.tn, .string C1.nm, .slice (some ⟨g1, 0, none⟩) C1.zs.length c1, .int .i64 C1.wd, .int .i64 C1.lf, .int .i64 C1.rt] 30) HR.out)
  replace HO1 := Lib.hid (Own.alloc (.cells #[.int .i64 C1.dg, .int .i64 C1.tn, .string C1.nm, .slice (some ⟨g1, 0, none⟩) C1.zs.length c1, .int .i64 C1.wd, .int .i64 C1.lf, .int .i64 C1.rt] 30) HO1.out)
  replace HS := Lib.hid (Src.alloc (.cells #[.int .i64 C1.dg, .int .i64 C1.tn, .string C1.nm, .slice (some ⟨g1, 0, none⟩) C1.zs.length c1, .int .i64 C1.wd, .int .i64 C1.lf, .int .i64 C1.rt] 30) HS.out)
  replace HK := Lib.hid (Kp.alloc (.cells #[.int .i64 C1.dg, .int .i64 C1.tn, .string C1.nm, .slice (some ⟨g1, 0, none⟩) C1.zs.length c1, .int .i64 C1.wd, .int .i64 C1.lf, .int .i64 C1.rt] 30) HK.out)
  clear HV1
  go_wp2_with fail
  go_at_call 46; refine (l01Next_c X A zs _ (by omega) _ (zsr HS)).mono ?_; rintro e w2 ⟨x2, rfl, hx2, hy2, hd2⟩; (try rw [Int.max_eq_left (by omega)] at hy2); have hkb := hd2.kp; have hka := zka HK hkb; have hlS2 := HS.out.lt; (try replace HR := zb hka hkb HR); (try replace HF := zb hka hkb HF); (try replace HO1 := zo hka hkb HO1); replace HK := zt HK hka hkb; have hsz2 := hkb.size_; have hsy2 := hka.size_; (try simp only [World.size_alloc, World.size_drew, World.heap_drewN, World.size_setCell] at hsz2 hsy2); replace HS := Lib.hid hd2.src; clear hka hkb hd2 hlS2; have hlS2 := HS.out.lt
  by_cases h0 : x2 = 0
  · go_wp2_with fail
    go_at_call 102; refine (l18Draw_c X A zs _ (zsr HS)).mono ?_; rintro e w3 ⟨D3, g3, c3, rfl, hn3, hm3, hO3, hd3⟩; obtain ⟨hq3, hr3⟩ := World.ownsRow.lt hO3 g3 rfl; (try simp only [World.size_alloc] at hq3); have HO3 := Lib.hid hO3; clear hO3; have hkb := hd3.kp; have hka := zka HK hkb; have hlS3 := HS.out.lt; (try replace HR := zb hka hkb HR); (try replace HF := zb hka hkb HF); (try replace HO1 := zo hka hkb HO1); replace HK := zt HK hka hkb; have hsz3 := hkb.size_; have hsy3 := hka.size_; (try simp only [World.size_alloc, World.size_drew, World.heap_drewN, World.size_setCell] at hsz3 hsy3); replace HS := Lib.hid hd3.src; clear hka hkb hd3 hlS3; have hlS3 := HS.out.lt
    go_wp2_with (first | (refine wpList_store_part 28 _ _ _ 0 _ _ (Blk.kp (zk0 HK) (by first | omega | (simp; omega)) HF.out) rfl rfl rfl rfl (by rfl) (by kernel_rfl) (by simp [go_sem, Value.cells, Value.oneCell']) (by simp [go_sem, Value.cells]) ?_; intro wS hBS hkb; simp [go_sem, Value.cells, setL] at hBS; have hka := zka HK hkb; have hlSo := HS.out.lt; (try replace HR := zb hka hkb HR); (try replace HO3 := zo hka hkb HO3); (try replace HS := Lib.hid (Src.kpg2 HS.out (by repeat (with_reducible first | exact Below.refl _ _ | refine Bel.alloc ?_ _ | refine Below.drew ?_ | refine Bel.drewN ?_ _)) hkb (by first | omega | (simp; omega)))); replace HF := Lib.hid hBS; replace HK := Lib.hid (Kp.own hkb (by first | omega | (simp; omega)) (Kp.trans HK.out hka)); have hszS := hkb.size_; have hsyS := hka.size_; (try simp only [World.size_alloc, World.size_drew, World.heap_drewN, World.size_setCell] at hszS hsyS); clear hBS hka hkb hlSo; have hlSS := HS.out.lt) | (refine wpList_load_blkG 30 _ _ (Blk.kp (zk0 HK) (by first | omega | (simp; omega)) HF.out) Tryz.underlying30 (by kernel_rfl) rfl rfl (by rfl) ?_) | (refine wpList_store_part 30 _ _ _ 0 _ _ (Blk.kp (zk0 HK) (by first | omega | (simp; omega)) HR.out) rfl rfl rfl rfl (by rfl) (by kernel_rfl) (by simp [go_sem, Value.cells, Value.oneCell']) (by simp [go_sem, Value.cells]) ?_; intro wS hBS hkb; simp [go_sem, Value.cells, setL] at hBS; have hka := zka HK hkb; have hlSo := HS.out.lt; (try replace HF := zb hka hkb HF); (try replace HO3 := zo hka hkb HO3); (try replace HS := Lib.hid (Src.kpg2 HS.out (by repeat (with_reducible first | exact Below.refl _ _ | refine Bel.alloc ?_ _ | refine Below.drew ?_ | refine Bel.drewN ?_ _)) hkb (by first | omega | (simp; omega)))); replace HR := Lib.hid hBS; replace HK := Lib.hid (Kp.own hkb (by first | omega | (simp; omega)) (Kp.trans HK.out hka)); have hszS := hkb.size_; have hsyS := hka.size_; (try simp only [World.size_alloc, World.size_drew, World.heap_drewN, World.size_setCell] at hszS hsyS); clear hBS hka hkb hlSo; have hlSS := HS.out.lt))
    exact bodyPost_ret (results_blk HR.out Tryz.underlying30 (by kernel_rfl) rfl rfl) rfl ⟨{ D3 with wd := C1.wd, lf := C1.lf, rt := C1.rt }, g3, c3, rfl, (fun h => (by cases h)), by (show D3.zs.length ≤ 27); omega, by (show D3.nm.size ≤ 27); omega, Own.ge_mono HO3.out (by first | omega | (simp; omega)), HS.out, HK.out⟩
  by_cases h1 : x2 = 1
  · go_wp2_with fail
    go_at_call 79; refine (l01Pick_c X A zs _ _ 2 _ _ (zsr HS) (by repeat (first | exact Blk.new _ _ _ | refine Blk.alloc _ ?_)) (by rfl) (by omega) (by omega) (by simp [isI]) (Nat.ne_of_gt (by have := HS.out.lt; first | omega | (simp; omega)))).mono ?_; rintro e w3 ⟨x3, i3, hi3, hp3, rfl, hd3⟩; have HP3 := Lib.hid hp3; clear hp3; have hkb := hd3.kp; have hka := zka HK hkb; have hlS3 := HS.out.lt; (try replace HR := zb hka hkb HR); (try replace HF := zb hka hkb HF); (try replace HO1 := zo hka hkb HO1); replace HK := zt HK hka hkb; have hsz3 := hkb.size_; have hsy3 := hka.size_; (try simp only [World.size_alloc, World.size_drew, World.heap_drewN, World.size_setCell] at hsz3 hsy3); replace HS := Lib.hid hd3.src; clear hka hkb hd3 hlS3; have hlS3 := HS.out.lt
    go_wp2_with (first | (refine wpList_store_part 2 _ _ _ 4 _ _ (Blk.kp (zk0 HK) (by first | omega | (simp; omega)) HF.out) rfl rfl rfl rfl (by rfl) (by kernel_rfl) (by simp [go_sem, Value.cells, Value.oneCell']) (by simp [go_sem, Value.cells]) ?_; intro wS hBS hkb; simp [go_sem, Value.cells, setL] at hBS; have hka := zka HK hkb; have hlSo := HS.out.lt; (try replace HR := zb hka hkb HR); (try replace HO1 := zo hka hkb HO1); (try replace HS := Lib.hid (Src.kpg2 HS.out (by repeat (with_reducible first | exact Below.refl _ _ | refine Bel.alloc ?_ _ | refine Below.drew ?_ | refine Bel.drewN ?_ _)) hkb (by first | omega | (simp; omega)))); replace HF := Lib.hid hBS; replace HK := Lib.hid (Kp.own hkb (by first | omega | (simp; omega)) (Kp.trans HK.out hka)); have hszS := hkb.size_; have hsyS := hka.size_; (try simp only [World.size_alloc, World.size_drew, World.heap_drewN, World.size_setCell] at hszS hsyS); clear hBS hka hkb hlSo; have hlSS := HS.out.lt) | (refine wpList_load_blkG 30 _ _ (Blk.kp (zk0 HK) (by first | omega | (simp; omega)) HF.out) Tryz.underlying30 (by kernel_rfl) rfl rfl (by rfl) ?_) | (refine wpList_store_part 30 _ _ _ 0 _ _ (Blk.kp (zk0 HK) (by first | omega | (simp; omega)) HR.out) rfl rfl rfl rfl (by rfl) (by kernel_rfl) (by simp [go_sem, Value.cells, Value.oneCell']) (by simp [go_sem, Value.cells]) ?_; intro wS hBS hkb; simp [go_sem, Value.cells, setL] at hBS; have hka := zka HK hkb; have hlSo := HS.out.lt; (try replace HF := zb hka hkb HF); (try replace HO1 := zo hka hkb HO1); (try replace HS := Lib.hid (Src.kpg2 HS.out (by repeat (with_reducible first | exact Below.refl _ _ | refine Bel.alloc ?_ _ | refine Below.drew ?_ | refine Bel.drewN ?_ _)) hkb (by first | omega | (simp; omega)))); replace HR := Lib.hid hBS; replace HK := Lib.hid (Kp.own hkb (by first | omega | (simp; omega)) (Kp.trans HK.out hka)); have hszS := hkb.size_; have hsyS := hka.size_; (try simp only [World.size_alloc, World.size_drew, World.heap_drewN, World.size_setCell] at hszS hsyS); clear hBS hka hkb hlSo; have hlSS := HS.out.lt))
    exact bodyPost_ret (results_blk HR.out Tryz.underlying30 (by kernel_rfl) rfl rfl) rfl ⟨{ C1 with wd := x3 }, g1, c1, rfl, (fun h => (by cases h)), by (show C1.zs.length ≤ 27); omega, by (show C1.nm.size ≤ 27); omega, Own.ge_mono HO1.out (by simp), HS.out, HK.out⟩
  by_cases h2 : x2 = 2
  · go_wp2_with fail
    go_at_call 79; refine (l01Pick_c X A zs _ _ 2 _ _ (zsr HS) (by repeat (first | exact Blk.new _ _ _ | refine Blk.alloc _ ?_)) (by rfl) (by omega) (by omega) (by simp [isI]) (Nat.ne_of_gt (by have := HS.out.lt; first | omega | (simp; omega)))).mono ?_; rintro e w3 ⟨x3, i3, hi3, hp3, rfl, hd3⟩; have HP3 := Lib.hid hp3; clear hp3; have hkb := hd3.kp; have hka := zka HK hkb; have hlS3 := HS.out.lt; (try replace HR := zb hka hkb HR); (try replace HF := zb hka hkb HF); (try replace HO1 := zo hka hkb HO1); replace HK := zt HK hka hkb; have hsz3 := hkb.size_; have hsy3 := hka.size_; (try simp only [World.size_alloc, World.size_drew, World.heap_drewN, World.size_setCell] at hsz3 hsy3); replace HS := Lib.hid hd3.src; clear hka hkb hd3 hlS3; have hlS3 := HS.out.lt
    go_wp2_with (first | (refine wpList_store_part 2 _ _ _ 5 _ _ (Blk.kp (zk0 HK) (by first | omega | (simp; omega)) HF.out) rfl rfl rfl rfl (by rfl) (by kernel_rfl) (by simp [go_sem, Value.cells, Value.oneCell']) (by simp [go_sem, Value.cells]) ?_; intro wS hBS hkb; simp [go_sem, Value.cells, setL] at hBS; have hka := zka HK hkb; have hlSo := HS.out.lt; (try replace HR := zb hka hkb HR); (try replace HO1 := zo hka hkb HO1); (try replace HS := Lib.hid (Src.kpg2 HS.out (by repeat (with_reducible first | exact Below.refl _ _ | refine Bel.alloc ?_ _ | refine Below.drew ?_ | refine Bel.drewN ?_ _)) hkb (by first | omega | (simp; omega)))); replace HF := Lib.hid hBS; replace HK := Lib.hid (Kp.own hkb (by first | omega | (simp; omega)) (Kp.trans HK.out hka)); have hszS := hkb.size_; have hsyS := hka.size_; (try simp only [World.size_alloc, World.size_drew, World.heap_drewN, World.size_setCell] at hszS hsyS); clear hBS hka hkb hlSo; have hlSS := HS.out.lt) | (refine wpList_load_blkG 30 _ _ (Blk.kp (zk0 HK) (by first | omega | (simp; omega)) HF.out) Tryz.underlying30 (by kernel_rfl) rfl rfl (by rfl) ?_) | (refine wpList_store_part 30 _ _ _ 0 _ _ (Blk.kp (zk0 HK) (by first | omega | (simp; omega)) HR.out) rfl rfl rfl rfl (by rfl) (by kernel_rfl) (by simp [go_sem, Value.cells, Value.oneCell']) (by simp [go_sem, Value.cells]) ?_; intro wS hBS hkb; simp [go_sem, Value.cells, setL] at hBS; have hka := zka HK hkb; have hlSo := HS.out.lt; (try replace HF := zb hka hkb HF); (try replace HO1 := zo hka hkb HO1); (try replace HS := Lib.hid (Src.kpg2 HS.out (by repeat (with_reducible first | exact Below.refl _ _ | refine Bel.alloc ?_ _ | refine Below.drew ?_ | refine Bel.drewN ?_ _)) hkb (by first | omega | (simp; omega)))); replace HR := Lib.hid hBS; replace HK := Lib.hid (Kp.own hkb (by first | omega | (simp; omega)) (Kp.trans HK.out hka)); have hszS := hkb.size_; have hsyS := hka.size_; (try simp only [World.size_alloc, World.size_drew, World.heap_drewN, World.size_setCell] at hszS hsyS); clear hBS hka hkb hlSo; have hlSS := HS.out.lt))
    exact bodyPost_ret (results_blk HR.out Tryz.underlying30 (by kernel_rfl) rfl rfl) rfl ⟨{ C1 with lf := x3 }, g1, c1, rfl, (fun h => (by cases h)), by (show C1.zs.length ≤ 27); omega, by (show C1.nm.size ≤ 27); omega, Own.ge_mono HO1.out (by simp), HS.out, HK.out⟩
  go_wp2_with (first | (refine wpList_load_blkG 30 _ _ (Blk.kp (zk0 HK) (by first | omega | (simp; omega)) HF.out) Tryz.underlying30 (by kernel_rfl) rfl rfl (by rfl) ?_) | (refine wpList_store_part 30 _ _ _ 0 _ _ (Blk.kp (zk0 HK) (by first | omega | (simp; omega)) HR.out) rfl rfl rfl rfl (by rfl) (by kernel_rfl) (by simp [go_sem, Value.cells, Value.oneCell']) (by simp [go_sem, Value.cells]) ?_; intro wS hBS hkb; simp [go_sem, Value.cells, setL] at hBS; have hka := zka HK hkb; have hlSo := HS.out.lt; (try replace HF := zb hka hkb HF); (try replace HO1 := zo hka hkb HO1); (try replace HS := Lib.hid (Src.kpg2 HS.out (by repeat (with_reducible first | exact Below.refl _ _ | refine Bel.alloc ?_ _ | refine Below.drew ?_ | refine Bel.drewN ?_ _)) hkb (by first | omega | (simp; omega)))); replace HR := Lib.hid hBS; replace HK := Lib.hid (Kp.own hkb (by first | omega | (simp; omega)) (Kp.trans HK.out hka)); have hszS := hkb.size_; have hsyS := hka.size_; (try simp only [World.size_alloc, World.size_drew, World.heap_drewN, World.size_setCell] at hszS hsyS); clear hBS hka hkb hlSo; have hlSS := HS.out.lt))
  exact bodyPost_ret (results_blk HR.out Tryz.underlying30 (by kernel_rfl) rfl rfl) rfl ⟨C1, g1, c1, rfl, (fun h => (by cases h)), by omega, by omega, Own.ge_mono HO1.out (by simp), HS.out, HK.out⟩
end Go.Proofs.YtpmcgicopogbhaaGreat
