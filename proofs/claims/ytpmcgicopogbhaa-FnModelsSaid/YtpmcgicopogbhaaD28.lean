/- Draws: models and tests. Conditions: as stated at each contract. -/
import Derived.Test.YtpmcgicopogbhaaProg
import Derived.Test.YtpmcgicopogbhaaBase
import Derived.Test.YtpmcgicopogbhaaRw
import Derived.Test.YtpmcgicopogbhaaRg
import Derived.Test.YtpmcgicopogbhaaL01
import Derived.Test.YtpmcgicopogbhaaCp
import Derived.Test.YtpmcgicopogbhaaL28
import Derived.Test.YtpmcgicopogbhaaL28b
import Derived.Test.YtpmcgicopogbhaaD00
import Derived.Test.YtpmcgicopogbhaaD01
import Derived.Test.YtpmcgicopogbhaaD02
import Derived.Test.YtpmcgicopogbhaaD03
import Derived.Test.YtpmcgicopogbhaaD18
import Derived.Test.YtpmcgicopogbhaaDp
import Derived.WalkKit
import Derived.WalkSpells
import Derived.WalkLawsBesides
import Derived.Lib.Hide
import Derived.Deep.QuietTactic
import Derived.BigQuiet
import Derived.Deep.Draws
import Derived.Deep.RegionHeld3
import Derived.Deep.Cut
import Derived.Deep.AppendLies
namespace Go.Proofs.Ytpmcgicopogbhaa
open Go.RowKit
set_option linter.unusedVariables false
set_option linter.unusedSimpArgs false
/-- A call that draws a model. -/
def DrMo (X : Nat) (A : Option Addr) (zs : List Int) (w : World) (e : Ending) (w' : World) : Prop := ∃ x y : Int, e = .returned (.agg #[.int .i64 x, .int .i64 y]) ∧ Dr X A zs w w'
set_option maxHeartbeats 2000000 in
theorem l28DrawModel_c (X : Nat) (A : Option Addr) (zs : List Int) (w : World) (hS : Src w X A zs) :
    Calls Try.prog 135 #[.pointer (some ⟨X, 0, none⟩)] w (DrMo X A zs w) := by
  have hlX := hS.lt
  have HS := Lib.hid (Src.alloc (.cells #[.int .i64 0, .int .i64 0] 73) hS)
  have HK := Lib.hid (Kp.alloc (.cells #[.int .i64 0, .int .i64 0] 73) (Kp.refl X w))
  have HR := Lib.hid (Blk.new w 73 #[.int .i64 0, .int .i64 0])
  clear hS
  go_enter Try.func135, Try.ntmps135
  go_wp2_with fail
  go_at_call 112; refine (l01Next_c X A zs _ (by omega) _ (by repeat (with_reducible first | exact HS.out | refine Src.alloc _ ?_ | refine Src.drew ?_ | refine Src.drewN _ ?_ | (refine Src.far _ ?_ ?_; (have := HS.out.lt; first | omega | (simp; omega))) | (refine Src.setRow _ ?_ ?_; (have := HS.out.lt; first | omega | (simp; omega)))))).mono ?_; rintro e w1 ⟨x1, rfl, hx1, hy1, hd1⟩; (try rw [Int.max_eq_left (by omega)] at hy1); have hkb := hd1.kp; have hka := Kp.ka HK.out hkb (by repeat (with_reducible first | exact Kp.refl _ _ | refine Kp.alloc _ ?_ | refine Kp.drew ?_ | refine Kp.drewN _ ?_)); have hlS1 := HS.out.lt; (try (replace HR := Lib.hid (Blk.kp2 hka hkb (by first | omega | (simp; omega)) (by first | omega | (simp; omega)) HR.out))); replace HK := Lib.hid (Kp.trans HK.out (Kp.trans hka hkb)); have hsz1 := hkb.size_; have hsy1 := hka.size_; (try simp only [World.size_alloc, World.size_drew, World.heap_drewN, World.size_setCell] at hsz1 hsy1); replace HS := Lib.hid hd1.src; clear hka hkb hd1 hlS1; have hlS1 := HS.out.lt
  go_wp2_with fail
  go_at_call 112; refine (l01Next_c X A zs _ (by omega) _ (by repeat (with_reducible first | exact HS.out | refine Src.alloc _ ?_ | refine Src.drew ?_ | refine Src.drewN _ ?_ | (refine Src.far _ ?_ ?_; (have := HS.out.lt; first | omega | (simp; omega))) | (refine Src.setRow _ ?_ ?_; (have := HS.out.lt; first | omega | (simp; omega)))))).mono ?_; rintro e w2 ⟨x2, rfl, hx2, hy2, hd2⟩; (try rw [Int.max_eq_left (by omega)] at hy2); have hkb := hd2.kp; have hka := Kp.ka HK.out hkb (by repeat (with_reducible first | exact Kp.refl _ _ | refine Kp.alloc _ ?_ | refine Kp.drew ?_ | refine Kp.drewN _ ?_)); have hlS2 := HS.out.lt; (try (replace HR := Lib.hid (Blk.kp2 hka hkb (by first | omega | (simp; omega)) (by first | omega | (simp; omega)) HR.out))); replace HK := Lib.hid (Kp.trans HK.out (Kp.trans hka hkb)); have hsz2 := hkb.size_; have hsy2 := hka.size_; (try simp only [World.size_alloc, World.size_drew, World.heap_drewN, World.size_setCell] at hsz2 hsy2); replace HS := Lib.hid hd2.src; clear hka hkb hd2 hlS2; have hlS2 := HS.out.lt
  have HP := Lib.hid (Blk.new w2 73 #[.int .i64 (x1 - 20), .int .i64 (1000 * (x2 - 10))])
  replace HR := Lib.hid (Blk.alloc (.cells #[.int .i64 (x1 - 20), .int .i64 (1000 * (x2 - 10))] 73) HR.out)
  replace HS := Lib.hid (Src.alloc (.cells #[.int .i64 (x1 - 20), .int .i64 (1000 * (x2 - 10))] 73) HS.out)
  replace HK := Lib.hid (Kp.alloc (.cells #[.int .i64 (x1 - 20), .int .i64 (1000 * (x2 - 10))] 73) HK.out)
  go_wp2_with fail
  go_at_call 112; refine (l01Next_c X A zs _ (by omega) _ (by repeat (with_reducible first | exact HS.out | refine Src.alloc _ ?_ | refine Src.drew ?_ | refine Src.drewN _ ?_ | (refine Src.far _ ?_ ?_; (have := HS.out.lt; first | omega | (simp; omega))) | (refine Src.setRow _ ?_ ?_; (have := HS.out.lt; first | omega | (simp; omega)))))).mono ?_; rintro e w5 ⟨x5, rfl, hx5, hy5, hd5⟩; (try rw [Int.max_eq_left (by omega)] at hy5); have hkb := hd5.kp; have hka := Kp.ka HK.out hkb (by repeat (with_reducible first | exact Kp.refl _ _ | refine Kp.alloc _ ?_ | refine Kp.drew ?_ | refine Kp.drewN _ ?_)); have hlS5 := HS.out.lt; (try (replace HR := Lib.hid (Blk.kp2 hka hkb (by first | omega | (simp; omega)) (by first | omega | (simp; omega)) HR.out))); (try (replace HP := Lib.hid (Blk.kp2 hka hkb (by first | omega | (simp; omega)) (by first | omega | (simp; omega)) HP.out))); replace HK := Lib.hid (Kp.trans HK.out (Kp.trans hka hkb)); have hsz5 := hkb.size_; have hsy5 := hka.size_; (try simp only [World.size_alloc, World.size_drew, World.heap_drewN, World.size_setCell] at hsz5 hsy5); replace HS := Lib.hid hd5.src; clear hka hkb hd5 hlS5; have hlS5 := HS.out.lt
  by_cases h0 : x5 = 0
  · go_wp2_with fail
    go_at_call 120; refine (l01Pick_c X A zs _ _ 2 _ _ (by repeat (with_reducible first | exact HS.out | refine Src.alloc _ ?_ | refine Src.drew ?_ | refine Src.drewN _ ?_ | (refine Src.far _ ?_ ?_; (have := HS.out.lt; first | omega | (simp; omega))) | (refine Src.setRow _ ?_ ?_; (have := HS.out.lt; first | omega | (simp; omega))))) (by repeat (first | exact Blk.new _ _ _ | refine Blk.alloc _ ?_)) (by rfl) (by omega) (by omega) (by simp [isI]) (Nat.ne_of_gt (by have := HS.out.lt; first | omega | (simp; omega)))).mono ?_; rintro e w6 ⟨x6, i6, hi6, hp6, rfl, hd6⟩; have HP6 := Lib.hid hp6; clear hp6; have hkb := hd6.kp; have hka := Kp.ka HK.out hkb (by repeat (with_reducible first | exact Kp.refl _ _ | refine Kp.alloc _ ?_ | refine Kp.drew ?_ | refine Kp.drewN _ ?_)); have hlS6 := HS.out.lt; (try (replace HR := Lib.hid (Blk.kp2 hka hkb (by first | omega | (simp; omega)) (by first | omega | (simp; omega)) HR.out))); (try (replace HP := Lib.hid (Blk.kp2 hka hkb (by first | omega | (simp; omega)) (by first | omega | (simp; omega)) HP.out))); replace HK := Lib.hid (Kp.trans HK.out (Kp.trans hka hkb)); have hsz6 := hkb.size_; have hsy6 := hka.size_; (try simp only [World.size_alloc, World.size_drew, World.heap_drewN, World.size_setCell] at hsz6 hsy6); replace HS := Lib.hid hd6.src; clear hka hkb hd6 hlS6; have hlS6 := HS.out.lt
    go_wp2_with (first | (refine wpList_store_part 2 _ _ _ 0 _ _ (Blk.kp (Kp.ka0 HK.out (by repeat (with_reducible first | exact Kp.refl _ _ | refine Kp.alloc _ ?_ | refine Kp.drew ?_ | refine Kp.drewN _ ?_))) (by first | omega | (simp; omega)) HP.out) rfl rfl rfl rfl (by rfl) (by kernel_rfl) (by simp [go_sem, Value.cells, Value.oneCell']) (by simp [go_sem, Value.cells]) ?_; intro wS hBS hkb; simp [go_sem, Value.cells, setL] at hBS; have hka := Kp.ka HK.out hkb (by repeat (with_reducible first | exact Kp.refl _ _ | refine Kp.alloc _ ?_ | refine Kp.drew ?_ | refine Kp.drewN _ ?_)); have hlSo := HS.out.lt; (try (replace HR := Lib.hid (Blk.kp2 hka hkb (by first | omega | (simp; omega)) (by first | omega | (simp; omega)) HR.out))); (try replace HS := Lib.hid (Src.kpg2 HS.out (by repeat (with_reducible first | exact Below.refl _ _ | refine Bel.alloc ?_ _ | refine Below.drew ?_ | refine Bel.drewN ?_ _)) hkb (by first | omega | (simp; omega)))); replace HP := Lib.hid hBS; replace HK := Lib.hid (Kp.own hkb (by first | omega | (simp; omega)) (Kp.trans HK.out hka)); have hszS := hkb.size_; have hsyS := hka.size_; (try simp only [World.size_alloc, World.size_drew, World.heap_drewN, World.size_setCell] at hszS hsyS); clear hBS hka hkb hlSo; have hlSS := HS.out.lt) | (refine wpList_load_blkG 73 _ _ (Blk.kp (Kp.ka0 HK.out (by repeat (with_reducible first | exact Kp.refl _ _ | refine Kp.alloc _ ?_ | refine Kp.drew ?_ | refine Kp.drewN _ ?_))) (by first | omega | (simp; omega)) HP.out) Try.underlying73 (by kernel_rfl) rfl rfl (by rfl) ?_) | (refine wpList_store_part 73 _ _ _ 0 _ _ (Blk.kp (Kp.ka0 HK.out (by repeat (with_reducible first | exact Kp.refl _ _ | refine Kp.alloc _ ?_ | refine Kp.drew ?_ | refine Kp.drewN _ ?_))) (by first | omega | (simp; omega)) HR.out) rfl rfl rfl rfl (by rfl) (by kernel_rfl) (by simp [go_sem, Value.cells, Value.oneCell']) (by simp [go_sem, Value.cells]) ?_; intro wS hBS hkb; simp [go_sem, Value.cells, setL] at hBS; have hka := Kp.ka HK.out hkb (by repeat (with_reducible first | exact Kp.refl _ _ | refine Kp.alloc _ ?_ | refine Kp.drew ?_ | refine Kp.drewN _ ?_)); have hlSo := HS.out.lt; (try (replace HP := Lib.hid (Blk.kp2 hka hkb (by first | omega | (simp; omega)) (by first | omega | (simp; omega)) HP.out))); (try replace HS := Lib.hid (Src.kpg2 HS.out (by repeat (with_reducible first | exact Below.refl _ _ | refine Bel.alloc ?_ _ | refine Below.drew ?_ | refine Bel.drewN ?_ _)) hkb (by first | omega | (simp; omega)))); replace HR := Lib.hid hBS; replace HK := Lib.hid (Kp.own hkb (by first | omega | (simp; omega)) (Kp.trans HK.out hka)); have hszS := hkb.size_; have hsyS := hka.size_; (try simp only [World.size_alloc, World.size_drew, World.heap_drewN, World.size_setCell] at hszS hsyS); clear hBS hka hkb hlSo; have hlSS := HS.out.lt))
    exact bodyPost_ret (results_blk HR.out Try.underlying73 (by kernel_rfl) rfl rfl) rfl ⟨_, _, rfl, HS.out, HK.out⟩
  by_cases h1 : x5 = 1
  · go_wp2_with fail
    go_at_call 120; refine (l01Pick_c X A zs _ _ 2 _ _ (by repeat (with_reducible first | exact HS.out | refine Src.alloc _ ?_ | refine Src.drew ?_ | refine Src.drewN _ ?_ | (refine Src.far _ ?_ ?_; (have := HS.out.lt; first | omega | (simp; omega))) | (refine Src.setRow _ ?_ ?_; (have := HS.out.lt; first | omega | (simp; omega))))) (by repeat (first | exact Blk.new _ _ _ | refine Blk.alloc _ ?_)) (by rfl) (by omega) (by omega) (by simp [isI]) (Nat.ne_of_gt (by have := HS.out.lt; first | omega | (simp; omega)))).mono ?_; rintro e w6 ⟨x6, i6, hi6, hp6, rfl, hd6⟩; have HP6 := Lib.hid hp6; clear hp6; have hkb := hd6.kp; have hka := Kp.ka HK.out hkb (by repeat (with_reducible first | exact Kp.refl _ _ | refine Kp.alloc _ ?_ | refine Kp.drew ?_ | refine Kp.drewN _ ?_)); have hlS6 := HS.out.lt; (try (replace HR := Lib.hid (Blk.kp2 hka hkb (by first | omega | (simp; omega)) (by first | omega | (simp; omega)) HR.out))); (try (replace HP := Lib.hid (Blk.kp2 hka hkb (by first | omega | (simp; omega)) (by first | omega | (simp; omega)) HP.out))); replace HK := Lib.hid (Kp.trans HK.out (Kp.trans hka hkb)); have hsz6 := hkb.size_; have hsy6 := hka.size_; (try simp only [World.size_alloc, World.size_drew, World.heap_drewN, World.size_setCell] at hsz6 hsy6); replace HS := Lib.hid hd6.src; clear hka hkb hd6 hlS6; have hlS6 := HS.out.lt
    go_wp2_with (first | (refine wpList_store_part 2 _ _ _ 1 _ _ (Blk.kp (Kp.ka0 HK.out (by repeat (with_reducible first | exact Kp.refl _ _ | refine Kp.alloc _ ?_ | refine Kp.drew ?_ | refine Kp.drewN _ ?_))) (by first | omega | (simp; omega)) HP.out) rfl rfl rfl rfl (by rfl) (by kernel_rfl) (by simp [go_sem, Value.cells, Value.oneCell']) (by simp [go_sem, Value.cells]) ?_; intro wS hBS hkb; simp [go_sem, Value.cells, setL] at hBS; have hka := Kp.ka HK.out hkb (by repeat (with_reducible first | exact Kp.refl _ _ | refine Kp.alloc _ ?_ | refine Kp.drew ?_ | refine Kp.drewN _ ?_)); have hlSo := HS.out.lt; (try (replace HR := Lib.hid (Blk.kp2 hka hkb (by first | omega | (simp; omega)) (by first | omega | (simp; omega)) HR.out))); (try replace HS := Lib.hid (Src.kpg2 HS.out (by repeat (with_reducible first | exact Below.refl _ _ | refine Bel.alloc ?_ _ | refine Below.drew ?_ | refine Bel.drewN ?_ _)) hkb (by first | omega | (simp; omega)))); replace HP := Lib.hid hBS; replace HK := Lib.hid (Kp.own hkb (by first | omega | (simp; omega)) (Kp.trans HK.out hka)); have hszS := hkb.size_; have hsyS := hka.size_; (try simp only [World.size_alloc, World.size_drew, World.heap_drewN, World.size_setCell] at hszS hsyS); clear hBS hka hkb hlSo; have hlSS := HS.out.lt) | (refine wpList_load_blkG 73 _ _ (Blk.kp (Kp.ka0 HK.out (by repeat (with_reducible first | exact Kp.refl _ _ | refine Kp.alloc _ ?_ | refine Kp.drew ?_ | refine Kp.drewN _ ?_))) (by first | omega | (simp; omega)) HP.out) Try.underlying73 (by kernel_rfl) rfl rfl (by rfl) ?_) | (refine wpList_store_part 73 _ _ _ 0 _ _ (Blk.kp (Kp.ka0 HK.out (by repeat (with_reducible first | exact Kp.refl _ _ | refine Kp.alloc _ ?_ | refine Kp.drew ?_ | refine Kp.drewN _ ?_))) (by first | omega | (simp; omega)) HR.out) rfl rfl rfl rfl (by rfl) (by kernel_rfl) (by simp [go_sem, Value.cells, Value.oneCell']) (by simp [go_sem, Value.cells]) ?_; intro wS hBS hkb; simp [go_sem, Value.cells, setL] at hBS; have hka := Kp.ka HK.out hkb (by repeat (with_reducible first | exact Kp.refl _ _ | refine Kp.alloc _ ?_ | refine Kp.drew ?_ | refine Kp.drewN _ ?_)); have hlSo := HS.out.lt; (try (replace HP := Lib.hid (Blk.kp2 hka hkb (by first | omega | (simp; omega)) (by first | omega | (simp; omega)) HP.out))); (try replace HS := Lib.hid (Src.kpg2 HS.out (by repeat (with_reducible first | exact Below.refl _ _ | refine Bel.alloc ?_ _ | refine Below.drew ?_ | refine Bel.drewN ?_ _)) hkb (by first | omega | (simp; omega)))); replace HR := Lib.hid hBS; replace HK := Lib.hid (Kp.own hkb (by first | omega | (simp; omega)) (Kp.trans HK.out hka)); have hszS := hkb.size_; have hsyS := hka.size_; (try simp only [World.size_alloc, World.size_drew, World.heap_drewN, World.size_setCell] at hszS hsyS); clear hBS hka hkb hlSo; have hlSS := HS.out.lt))
    exact bodyPost_ret (results_blk HR.out Try.underlying73 (by kernel_rfl) rfl rfl) rfl ⟨_, _, rfl, HS.out, HK.out⟩
  go_wp2_with (first | (refine wpList_load_blkG 73 _ _ (Blk.kp (Kp.ka0 HK.out (by repeat (with_reducible first | exact Kp.refl _ _ | refine Kp.alloc _ ?_ | refine Kp.drew ?_ | refine Kp.drewN _ ?_))) (by first | omega | (simp; omega)) HP.out) Try.underlying73 (by kernel_rfl) rfl rfl (by rfl) ?_) | (refine wpList_store_part 73 _ _ _ 0 _ _ (Blk.kp (Kp.ka0 HK.out (by repeat (with_reducible first | exact Kp.refl _ _ | refine Kp.alloc _ ?_ | refine Kp.drew ?_ | refine Kp.drewN _ ?_))) (by first | omega | (simp; omega)) HR.out) rfl rfl rfl rfl (by rfl) (by kernel_rfl) (by simp [go_sem, Value.cells, Value.oneCell']) (by simp [go_sem, Value.cells]) ?_; intro wS hBS hkb; simp [go_sem, Value.cells, setL] at hBS; have hka := Kp.ka HK.out hkb (by repeat (with_reducible first | exact Kp.refl _ _ | refine Kp.alloc _ ?_ | refine Kp.drew ?_ | refine Kp.drewN _ ?_)); have hlSo := HS.out.lt; (try (replace HP := Lib.hid (Blk.kp2 hka hkb (by first | omega | (simp; omega)) (by first | omega | (simp; omega)) HP.out))); (try replace HS := Lib.hid (Src.kpg2 HS.out (by repeat (with_reducible first | exact Below.refl _ _ | refine Bel.alloc ?_ _ | refine Below.drew ?_ | refine Bel.drewN ?_ _)) hkb (by first | omega | (simp; omega)))); replace HR := Lib.hid hBS; replace HK := Lib.hid (Kp.own hkb (by first | omega | (simp; omega)) (Kp.trans HK.out hka)); have hszS := hkb.size_; have hsyS := hka.size_; (try simp only [World.size_alloc, World.size_drew, World.heap_drewN, World.size_setCell] at hszS hsyS); clear hBS hka hkb hlSo; have hlSS := HS.out.lt))
  exact bodyPost_ret (results_blk HR.out Try.underlying73 (by kernel_rfl) rfl rfl) rfl ⟨_, _, rfl, HS.out, HK.out⟩
/-- A call that draws tests in memory of their own. -/
def DrT (X : Nat) (A : Option Addr) (zs : List Int) (w : World) (e : Ending) (w' : World) : Prop := ∃ (ps : List (Int × Int)) (g c : Nat), e = .returned (.slice (some ⟨g, 0, none⟩) ps.length c) ∧ ps.length ≤ 13 ∧ OwnP w' w.heap.size 137 (.slice (some ⟨g, 0, none⟩) ps.length c) ps ∧ Dr X A zs w w'
theorem mkT (n : Nat) (hn : n ≤ 100) (W : World) : (Instr.makeSlice 69 (.int .i64 (n : Int)) (.int .i64 (n : Int))).run Try.prog W = .ok (.slice (some ⟨W.heap.size, 0, none⟩) n n) (W.alloc (.cells (madeCells #[.int .i64 0, .int .i64 0] (n * 2)) 137)) := by
  obtain ⟨i0, hi, hz0, hz1, hz2⟩ := info_parts (show (Try.prog.info? 137).map (fun i => (i.zero, i.size, i.bytes)) = some (some (.agg #[.int .i64 0, .int .i64 0]), 2, 16) by kernel_rfl)
  have h := run_make (P := Try.prog) W 69 137 i0 _ Try.underlying69 hi hz0 .i64 .i64 n n (by omega) (by omega) (by rw [hz2]; omega) (by omega)
  simp only [Int.toNat_natCast, hz1] at h
  exact h
theorem made_pairs (n : Nat) : madeCells #[.int .i64 0, .int .i64 0] (n * 2) = (pcells (List.replicate n (0, 0))).toArray := by
  apply Array.ext
  · simp [size_madeCells, pcells_len]
  · intro i h1 h2
    have h3 : i < n * 2 := by simpa [size_madeCells] using h1
    have e1 : (madeCells #[.int .i64 0, .int .i64 0] (n * 2))[i] = .int .i64 0 := by
      simp only [madeCells, Array.getElem_map, Array.getElem_range]
      rcases Nat.mod_two_eq_zero_or_one i with h | h <;> simp [h]
    have e2 : ∀ (m j : Nat) (hj : j < (pcells (List.replicate m (0, 0))).length), (pcells (List.replicate m (0, 0)))[j] = .int .i64 0 := by
      intro m
      induction m with
      | zero => intro j hj; simp [pcells] at hj
      | succ m ih =>
        intro j hj
        have e : pcells (List.replicate (m + 1) (0, 0)) = .int .i64 0 :: .int .i64 0 :: pcells (List.replicate m (0, 0)) := by simp [pcells, List.replicate_succ]
        match j with
        | 0 => simp [e]
        | 1 => simp [e]
        | j + 2 => simp only [e, List.getElem_cons_succ]; exact ih j _
    rw [e1, List.getElem_toArray, e2]
theorem OwnP.made (w : World) (n : Nat) (hn : n ≤ 100) (B : Nat) (hB : B ≤ w.heap.size) : OwnP (w.alloc (.cells (madeCells #[.int .i64 0, .int .i64 0] (n * 2)) 137)) B 137 (.slice (some ⟨w.heap.size, 0, none⟩) n n) (List.replicate n (0, 0)) := by
  have hl : (List.replicate n ((0, 0) : Int × Int)).length = n := List.length_replicate
  unfold OwnP
  rw [hl, made_pairs]
  refine ⟨by rw [pcells_len, hl], .inr ⟨w.heap.size, n, (pcells (List.replicate n (0, 0))).toArray, rfl, hB, Blk.new _ _ _, Nat.le_refl _, by unfold maxLen; omega, by simp [pcells_len], ?_⟩⟩
  show List.take (n * 2) (pcells (List.replicate n (0, 0))) = _
  exact List.take_of_length_le (by rw [pcells_len, hl]; exact Nat.le_refl _)
set_option maxRecDepth 20000 in
set_option maxHeartbeats 4000000 in
theorem l28Draw_c (X : Nat) (A : Option Addr) (zs : List Int) (w : World) (hS : Src w X A zs) :
    Calls Try.prog 119 #[.pointer (some ⟨X, 0, none⟩)] w (DrT X A zs w) := by
  have hlX := hS.lt
  have HS := Lib.hid hS
  have HK := Lib.hid (Kp.refl X w)
  clear hS
  go_enter Try.func119, Try.ntmps119
  go_wp2_with fail
  go_at_call 112; refine (l01Next_c X A zs _ (by omega) _ (by repeat (with_reducible first | exact HS.out | refine Src.alloc _ ?_ | refine Src.drew ?_ | refine Src.drewN _ ?_ | (refine Src.far _ ?_ ?_; (have := HS.out.lt; first | omega | (simp; omega))) | (refine Src.setRow _ ?_ ?_; (have := HS.out.lt; first | omega | (simp; omega)))))).mono ?_; rintro e w1 ⟨x1, rfl, hx1, hy1, hd1⟩; (try rw [Int.max_eq_left (by omega)] at hy1); have hkb := hd1.kp; have hka := Kp.ka HK.out hkb (by repeat (with_reducible first | exact Kp.refl _ _ | refine Kp.alloc _ ?_ | refine Kp.drew ?_ | refine Kp.drewN _ ?_)); have hlS1 := HS.out.lt; replace HK := Lib.hid (Kp.trans HK.out (Kp.trans hka hkb)); have hsz1 := hkb.size_; have hsy1 := hka.size_; (try simp only [World.size_alloc, World.size_drew, World.heap_drewN, World.size_setCell] at hsz1 hsy1); replace HS := Lib.hid hd1.src; clear hka hkb hd1 hlS1; have hlS1 := HS.out.lt
  go_wp2_with fail
  go_at_call 112; refine (l01Next_c X A zs _ (by omega) _ (by repeat (with_reducible first | exact HS.out | refine Src.alloc _ ?_ | refine Src.drew ?_ | refine Src.drewN _ ?_ | (refine Src.far _ ?_ ?_; (have := HS.out.lt; first | omega | (simp; omega))) | (refine Src.setRow _ ?_ ?_; (have := HS.out.lt; first | omega | (simp; omega)))))).mono ?_; rintro e w2 ⟨x2, rfl, hx2, hy2, hd2⟩; (try rw [Int.max_eq_left (by omega)] at hy2); have hkb := hd2.kp; have hka := Kp.ka HK.out hkb (by repeat (with_reducible first | exact Kp.refl _ _ | refine Kp.alloc _ ?_ | refine Kp.drew ?_ | refine Kp.drewN _ ?_)); have hlS2 := HS.out.lt; replace HK := Lib.hid (Kp.trans HK.out (Kp.trans hka hkb)); have hsz2 := hkb.size_; have hsy2 := hka.size_; (try simp only [World.size_alloc, World.size_drew, World.heap_drewN, World.size_setCell] at hsz2 hsy2); replace HS := Lib.hid hd2.src; clear hka hkb hd2 hlS2; have hlS2 := HS.out.lt
  have HM := Lib.hid (Blk.new w2 73 #[.int .i64 (x1 - 20), .int .i64 (1000 * (x2 - 10))])
  replace HS := Lib.hid (Src.alloc (.cells #[.int .i64 (x1 - 20), .int .i64 (1000 * (x2 - 10))] 73) HS.out)
  replace HK := Lib.hid (Kp.alloc (.cells #[.int .i64 (x1 - 20), .int .i64 (1000 * (x2 - 10))] 73) HK.out)
  have HP : Hid (OwnP ((w2.alloc (.cells #[.int .i64 (x1 - 20), .int .i64 (1000 * (x2 - 10))] 73)).alloc (.cells #[] 137)) w.heap.size 137 (.slice (some ⟨w2.heap.size + 1, 0, none⟩) 0 0) []) := by
    have h := OwnP.new (w2.alloc (.cells #[.int .i64 (x1 - 20), .int .i64 (1000 * (x2 - 10))] 73)) w.heap.size 137 (by simp; omega)
    simp only [World.size_alloc] at h
    exact h
  replace HM := Lib.hid (Blk.alloc (.cells #[] 137) HM.out)
  replace HS := Lib.hid (Src.alloc (.cells #[] 137) HS.out)
  replace HK := Lib.hid (Kp.alloc (.cells #[] 137) HK.out)
  go_wp2_with fail
  go_at_call 112; refine (l01Next_c X A zs _ (by omega) _ (by repeat (with_reducible first | exact HS.out | refine Src.alloc _ ?_ | refine Src.drew ?_ | refine Src.drewN _ ?_ | (refine Src.far _ ?_ ?_; (have := HS.out.lt; first | omega | (simp; omega))) | (refine Src.setRow _ ?_ ?_; (have := HS.out.lt; first | omega | (simp; omega)))))).mono ?_; rintro e w3 ⟨x3, rfl, hx3, hy3, hd3⟩; (try rw [Int.max_eq_left (by omega)] at hy3); have hkb := hd3.kp; have hka := Kp.ka HK.out hkb (by repeat (with_reducible first | exact Kp.refl _ _ | refine Kp.alloc _ ?_ | refine Kp.drew ?_ | refine Kp.drewN _ ?_)); have hlS3 := HS.out.lt; (try (replace HM := Lib.hid (Blk.kp2 hka hkb (by first | omega | (simp; omega)) (by first | omega | (simp; omega)) HM.out))); (try (replace HP := Lib.hid (OwnP.kp3 hka hkb (by first | omega | (simp; omega)) (by first | omega | (simp; omega)) HP.out))); replace HK := Lib.hid (Kp.trans HK.out (Kp.trans hka hkb)); have hsz3 := hkb.size_; have hsy3 := hka.size_; (try simp only [World.size_alloc, World.size_drew, World.heap_drewN, World.size_setCell] at hsz3 hsy3); replace HS := Lib.hid hd3.src; clear hka hkb hd3 hlS3; have hlS3 := HS.out.lt
  obtain ⟨k0, rfl⟩ : ∃ k : Nat, x3 = k := ⟨x3.toNat, by omega⟩
  have hk0 : k0 ≤ 6 := by omega
  have hgM := HM.out.lt
  go_wp2
  go_loopw [4, 5] (fun l n wr => ∃ (k : Nat) (ps : List (Int × Int)) (gb cb : Nat), ps.length + k ≤ 6 ∧ n = .int .i64 k ∧ l = .slice (some ⟨gb, 0, none⟩) ps.length cb ∧ w.heap.size ≤ gb ∧ gb ≠ w2.heap.size ∧ Hid (Src wr X A zs) ∧ Hid (Kp X w wr) ∧ Hid (Blk wr w2.heap.size 73 #[.int .i64 (x1 - 20), .int .i64 (1000 * (x2 - 10))]) ∧ Hid (OwnP wr w.heap.size 137 (.slice (some ⟨gb, 0, none⟩) ps.length cb) ps)) (fun _ n _ => (intOf n).toNat)
  case atStart => exact ⟨k0, [], w2.heap.size + 1, 0, by simpa using hk0, rfl, rfl, by omega, by omega, HS, HK, HM, HP⟩
  case round =>
    clear HS HK HM HP
    obtain ⟨k, ps, gb, cb, hk, rfl, rfl, hgb0, hgb1, HS, HK, HM, HP⟩ := hrel
    have hlS := HS.out.lt
    have hgMr := HM.out.lt
    have hlP := (World.ownsRow.lt HP.out gb rfl).2
    by_cases hk1 : 0 < k
    · have hk1' : (0 : Int) < k := by omega
      go_wp2_with fail
      go_at_call 112; refine (l01Next_c X A zs _ (by omega) _ (by repeat (with_reducible first | exact HS.out | refine Src.alloc _ ?_ | refine Src.drew ?_ | refine Src.drewN _ ?_ | (refine Src.far _ ?_ ?_; (have := HS.out.lt; first | omega | (simp; omega))) | (refine Src.setRow _ ?_ ?_; (have := HS.out.lt; first | omega | (simp; omega)))))).mono ?_; rintro e w4 ⟨x4, rfl, hx4, hy4, hd4⟩; (try rw [Int.max_eq_left (by omega)] at hy4); have hkb := hd4.kp; have hka := Kp.ka HK.out hkb (by repeat (with_reducible first | exact Kp.refl _ _ | refine Kp.alloc _ ?_ | refine Kp.drew ?_ | refine Kp.drewN _ ?_)); have hlS4 := HS.out.lt; (try (replace HM := Lib.hid (Blk.kp2 hka hkb (by first | omega | (simp; omega)) (by first | omega | (simp; omega)) HM.out))); (try (replace HP := Lib.hid (OwnP.kp3 hka hkb (by first | omega | (simp; omega)) (by first | omega | (simp; omega)) HP.out))); replace HK := Lib.hid (Kp.trans HK.out (Kp.trans hka hkb)); have hsz4 := hkb.size_; have hsy4 := hka.size_; (try simp only [World.size_alloc, World.size_drew, World.heap_drewN, World.size_setCell] at hsz4 hsy4); replace HS := Lib.hid hd4.src; clear hka hkb hd4 hlS4; have hlS4 := HS.out.lt
      have c0 : w4.cell? ⟨w2.heap.size, 0, none⟩ = some (.int .i64 (x1 - 20)) := by rw [HM.out.cell]; rfl
      have c1 : w4.cell? ⟨w2.heap.size, 1, none⟩ = some (.int .i64 (1000 * (x2 - 10))) := by rw [HM.out.cell]; rfl
      go_wp2_with fail
      go_at_call 131; refine (seen_l01Nearest_c (x1 - 20) (1000 * (x2 - 10)) (1000 + x4) (by omega) (by omega) (by omega) (by omega) (by omega) (by omega) _).mono ?_; rintro e w5 ⟨rfl, hb5⟩; replace HM := Lib.hid (Blk.step hb5 HM.out); replace HP := Lib.hid (OwnP.step hb5 HP.out); replace HS := Lib.hid (Src.step hb5 HS.out); replace HK := Lib.hid (Kp.below hb5 HK.out); have hsz5 := hb5.size; (try simp only [World.size_alloc] at hsz5); clear hb5; have hlS5 := HS.out.lt
      clear c0 c1
      generalize Sn (x1 - 20) (1000 * (x2 - 10)) (1000 + x4) = sn
      go_wp2_with fail
      go_at_call 112; refine (l01Next_c X A zs _ (by omega) _ (by repeat (with_reducible first | exact HS.out | refine Src.alloc _ ?_ | refine Src.drew ?_ | refine Src.drewN _ ?_ | (refine Src.far _ ?_ ?_; (have := HS.out.lt; first | omega | (simp; omega))) | (refine Src.setRow _ ?_ ?_; (have := HS.out.lt; first | omega | (simp; omega)))))).mono ?_; rintro e w6 ⟨x6, rfl, hx6, hy6, hd6⟩; (try rw [Int.max_eq_left (by omega)] at hy6); have hkb := hd6.kp; have hka := Kp.ka HK.out hkb (by repeat (with_reducible first | exact Kp.refl _ _ | refine Kp.alloc _ ?_ | refine Kp.drew ?_ | refine Kp.drewN _ ?_)); have hlS6 := HS.out.lt; (try (replace HM := Lib.hid (Blk.kp2 hka hkb (by first | omega | (simp; omega)) (by first | omega | (simp; omega)) HM.out))); (try (replace HP := Lib.hid (OwnP.kp3 hka hkb (by first | omega | (simp; omega)) (by first | omega | (simp; omega)) HP.out))); replace HK := Lib.hid (Kp.trans HK.out (Kp.trans hka hkb)); have hsz6 := hkb.size_; have hsy6 := hka.size_; (try simp only [World.size_alloc, World.size_drew, World.heap_drewN, World.size_setCell] at hsz6 hsy6); replace HS := Lib.hid hd6.src; clear hka hkb hd6 hlS6; have hlS6 := HS.out.lt
      go_wp2_with fail
      go_at_call 112; refine (l01Next_c X A zs _ (by omega) _ (by repeat (with_reducible first | exact HS.out | refine Src.alloc _ ?_ | refine Src.drew ?_ | refine Src.drewN _ ?_ | (refine Src.far _ ?_ ?_; (have := HS.out.lt; first | omega | (simp; omega))) | (refine Src.setRow _ ?_ ?_; (have := HS.out.lt; first | omega | (simp; omega)))))).mono ?_; rintro e w7 ⟨x7, rfl, hx7, hy7, hd7⟩; (try rw [Int.max_eq_left (by omega)] at hy7); have hkb := hd7.kp; have hka := Kp.ka HK.out hkb (by repeat (with_reducible first | exact Kp.refl _ _ | refine Kp.alloc _ ?_ | refine Kp.drew ?_ | refine Kp.drewN _ ?_)); have hlS7 := HS.out.lt; (try (replace HM := Lib.hid (Blk.kp2 hka hkb (by first | omega | (simp; omega)) (by first | omega | (simp; omega)) HM.out))); (try (replace HP := Lib.hid (OwnP.kp3 hka hkb (by first | omega | (simp; omega)) (by first | omega | (simp; omega)) HP.out))); replace HK := Lib.hid (Kp.trans HK.out (Kp.trans hka hkb)); have hsz7 := hkb.size_; have hsy7 := hka.size_; (try simp only [World.size_alloc, World.size_drew, World.heap_drewN, World.size_setCell] at hsz7 hsy7); replace HS := Lib.hid hd7.src; clear hka hkb hd7 hlS7; have hlS7 := HS.out.lt
      have hlP7 := (World.ownsRow.lt HP.out gb rfl).2
      go_wp2_with (first | (at_builtin; refine wpList_app1PX rfl _ _ 69 rfl w.heap.size 137 (.agg #[.int .i64 0, .int .i64 0]) Try.underlying69 (by kernel_rfl) rfl _ ps (_, _) rfl (OwnP.alloc _ HP.out) w7.heap.size rfl (by simp [go_sem]; rfl) (by simp [go_sem]; rfl) (by omega) (by simp; omega) ?_; intro gb' cb' w9 hP9 hk9 hg9; have hkb : Kp gb _ w9 := hk9; have hka := Kp.ka HK.out hkb (Kp.alloc _ (Kp.refl _ _)); replace HM := Lib.hid (Blk.kp2 hka hkb (by omega) (by omega) HM.out); replace HS := Lib.hid (Src.kpg2 HS.out (Bel.alloc (Below.refl _ _) _) hkb (by omega)); replace HK := Lib.hid (Kp.own hkb (by omega) (Kp.trans HK.out hka)); have hgb := (World.ownsRow.lt hP9 gb' rfl); have hs9 := hkb.size_; simp only [World.size_alloc] at hs9; clear hka hkb hk9 HP; have HP := Lib.hid hP9; clear hP9))
      have hgM9 := HM.out.lt
      have hne : gb' ≠ w2.heap.size := by
        rcases hg9 with h | h
        · have h' : gb = gb' := by injection h
          omega
        · simp only [World.size_alloc] at h; omega
      go_roundw
      case rel => exact ⟨k - 1, ps ++ [(_, _)], gb', cb', by simp; omega, by first | go_num | (congr 1; omega), by simp, by omega, hne, HS, HK, HM, Lib.hid (by rw [List.length_append]; exact HP.out)⟩
      case measure => simp [intOf]; omega
    obtain rfl : k = 0 := by omega
    go_wp2_with fail
    go_at_call 112; refine (l01Next_c X A zs _ (by omega) _ (by repeat (with_reducible first | exact HS.out | refine Src.alloc _ ?_ | refine Src.drew ?_ | refine Src.drewN _ ?_ | (refine Src.far _ ?_ ?_; (have := HS.out.lt; first | omega | (simp; omega))) | (refine Src.setRow _ ?_ ?_; (have := HS.out.lt; first | omega | (simp; omega)))))).mono ?_; rintro e w8 ⟨x8, rfl, hx8, hy8, hd8⟩; (try rw [Int.max_eq_left (by omega)] at hy8); have hkb := hd8.kp; have hka := Kp.ka HK.out hkb (by repeat (with_reducible first | exact Kp.refl _ _ | refine Kp.alloc _ ?_ | refine Kp.drew ?_ | refine Kp.drewN _ ?_)); have hlS8 := HS.out.lt; (try (replace HM := Lib.hid (Blk.kp2 hka hkb (by first | omega | (simp; omega)) (by first | omega | (simp; omega)) HM.out))); (try (replace HP := Lib.hid (OwnP.kp3 hka hkb (by first | omega | (simp; omega)) (by first | omega | (simp; omega)) HP.out))); replace HK := Lib.hid (Kp.trans HK.out (Kp.trans hka hkb)); have hsz8 := hkb.size_; have hsy8 := hka.size_; (try simp only [World.size_alloc, World.size_drew, World.heap_drewN, World.size_setCell] at hsz8 hsy8); replace HS := Lib.hid hd8.src; clear hka hkb hd8 hlS8; have hlS8 := HS.out.lt
    have hlP8 := (World.ownsRow.lt HP.out gb rfl).2
    by_cases h8 : x8 = 0
    · go_wp2_with fail
      go_at_call 120; refine (l01Pick_c X A zs _ _ 2 _ _ (by repeat (with_reducible first | exact HS.out | refine Src.alloc _ ?_ | refine Src.drew ?_ | refine Src.drewN _ ?_ | (refine Src.far _ ?_ ?_; (have := HS.out.lt; first | omega | (simp; omega))) | (refine Src.setRow _ ?_ ?_; (have := HS.out.lt; first | omega | (simp; omega))))) (by repeat (first | exact Blk.new _ _ _ | refine Blk.alloc _ ?_)) (by rfl) (by omega) (by omega) (by simp [isI]) (Nat.ne_of_gt (by have := HS.out.lt; first | omega | (simp; omega)))).mono ?_; rintro e w9 ⟨x9, i9, hi9, hp9, rfl, hd9⟩; have HP9 := Lib.hid hp9; clear hp9; have hkb := hd9.kp; have hka := Kp.ka HK.out hkb (by repeat (with_reducible first | exact Kp.refl _ _ | refine Kp.alloc _ ?_ | refine Kp.drew ?_ | refine Kp.drewN _ ?_)); have hlS9 := HS.out.lt; (try (replace HM := Lib.hid (Blk.kp2 hka hkb (by first | omega | (simp; omega)) (by first | omega | (simp; omega)) HM.out))); (try (replace HP := Lib.hid (OwnP.kp3 hka hkb (by first | omega | (simp; omega)) (by first | omega | (simp; omega)) HP.out))); replace HK := Lib.hid (Kp.trans HK.out (Kp.trans hka hkb)); have hsz9 := hkb.size_; have hsy9 := hka.size_; (try simp only [World.size_alloc, World.size_drew, World.heap_drewN, World.size_setCell] at hsz9 hsy9); replace HS := Lib.hid hd9.src; clear hka hkb hd9 hlS9; have hlS9 := HS.out.lt
      go_wp2_with fail
      go_at_call 120; refine (l01Pick_c X A zs _ _ 2 _ _ (by repeat (with_reducible first | exact HS.out | refine Src.alloc _ ?_ | refine Src.drew ?_ | refine Src.drewN _ ?_ | (refine Src.far _ ?_ ?_; (have := HS.out.lt; first | omega | (simp; omega))) | (refine Src.setRow _ ?_ ?_; (have := HS.out.lt; first | omega | (simp; omega))))) (by repeat (first | exact Blk.new _ _ _ | refine Blk.alloc _ ?_)) (by rfl) (by omega) (by omega) (by simp [isI]) (Nat.ne_of_gt (by have := HS.out.lt; first | omega | (simp; omega)))).mono ?_; rintro e w10 ⟨x10, i10, hi10, hp10, rfl, hd10⟩; have HP10 := Lib.hid hp10; clear hp10; have hkb := hd10.kp; have hka := Kp.ka HK.out hkb (by repeat (with_reducible first | exact Kp.refl _ _ | refine Kp.alloc _ ?_ | refine Kp.drew ?_ | refine Kp.drewN _ ?_)); have hlS10 := HS.out.lt; (try (replace HM := Lib.hid (Blk.kp2 hka hkb (by first | omega | (simp; omega)) (by first | omega | (simp; omega)) HM.out))); (try (replace HP := Lib.hid (OwnP.kp3 hka hkb (by first | omega | (simp; omega)) (by first | omega | (simp; omega)) HP.out))); replace HK := Lib.hid (Kp.trans HK.out (Kp.trans hka hkb)); have hsz10 := hkb.size_; have hsy10 := hka.size_; (try simp only [World.size_alloc, World.size_drew, World.heap_drewN, World.size_setCell] at hsz10 hsy10); replace HS := Lib.hid hd10.src; clear hka hkb hd10 hlS10; have hlS10 := HS.out.lt
      have hlP10 := (World.ownsRow.lt HP.out gb rfl).2
      go_wp2_with (first | (at_builtin; refine wpList_app1PX rfl _ _ 69 rfl w.heap.size 137 (.agg #[.int .i64 0, .int .i64 0]) Try.underlying69 (by kernel_rfl) rfl _ ps (_, _) rfl (OwnP.alloc _ HP.out) w10.heap.size rfl (by simp [go_sem]; rfl) (by simp [go_sem]; rfl) (by omega) (by simp; omega) ?_; intro gb' cb' w9 hP9 hk9 hg9; have hkb : Kp gb _ w9 := hk9; have hka := Kp.ka HK.out hkb (Kp.alloc _ (Kp.refl _ _)); replace HM := Lib.hid (Blk.kp2 hka hkb (by omega) (by omega) HM.out); replace HS := Lib.hid (Src.kpg2 HS.out (Bel.alloc (Below.refl _ _) _) hkb (by omega)); replace HK := Lib.hid (Kp.own hkb (by omega) (Kp.trans HK.out hka)); have hgb := (World.ownsRow.lt hP9 gb' rfl); have hs9 := hkb.size_; simp only [World.size_alloc] at hs9; clear hka hkb hk9 HP; have HP := Lib.hid hP9; clear hP9))
      go_ret
      refine ⟨ps ++ [(x9, x10)], gb', cb', by simp, by simp; omega, ?_, HS.out, HK.out⟩
      rw [List.length_append]
      exact HP.out
    by_cases h9 : x8 = 1
    · go_wp2_with fail
      go_at_call 112; refine (l01Next_c X A zs _ (by omega) _ (by repeat (with_reducible first | exact HS.out | refine Src.alloc _ ?_ | refine Src.drew ?_ | refine Src.drewN _ ?_ | (refine Src.far _ ?_ ?_; (have := HS.out.lt; first | omega | (simp; omega))) | (refine Src.setRow _ ?_ ?_; (have := HS.out.lt; first | omega | (simp; omega)))))).mono ?_; rintro e w9 ⟨x9, rfl, hx9, hy9, hd9⟩; (try rw [Int.max_eq_left (by omega)] at hy9); have hkb := hd9.kp; have hka := Kp.ka HK.out hkb (by repeat (with_reducible first | exact Kp.refl _ _ | refine Kp.alloc _ ?_ | refine Kp.drew ?_ | refine Kp.drewN _ ?_)); have hlS9 := HS.out.lt; (try (replace HM := Lib.hid (Blk.kp2 hka hkb (by first | omega | (simp; omega)) (by first | omega | (simp; omega)) HM.out))); (try (replace HP := Lib.hid (OwnP.kp3 hka hkb (by first | omega | (simp; omega)) (by first | omega | (simp; omega)) HP.out))); replace HK := Lib.hid (Kp.trans HK.out (Kp.trans hka hkb)); have hsz9 := hkb.size_; have hsy9 := hka.size_; (try simp only [World.size_alloc, World.size_drew, World.heap_drewN, World.size_setCell] at hsz9 hsy9); replace HS := Lib.hid hd9.src; clear hka hkb hd9 hlS9; have hlS9 := HS.out.lt
      by_cases hx : x9 = 0
      · have hmk := fun W => mkT 12 (by omega) W
        have HMT := Lib.hid (OwnP.made w9 12 (by omega) w.heap.size (by omega))
        simp only [show ((12 : Nat) : Int) = 12 from rfl] at hmk
        generalize madeCells #[.int .i64 0, .int .i64 0] (12 * 2) = mc at hmk HMT
        subst hx
        go_wp2
        go_ret
        exact ⟨List.replicate 12 (0, 0), w9.heap.size, 12, by simp, by simp, by rw [List.length_replicate]; exact HMT.out, Src.alloc _ HS.out, Kp.alloc _ HK.out⟩
      · obtain rfl : x9 = 1 := by omega
        have hmk := fun W => mkT 13 (by omega) W
        have HMT := Lib.hid (OwnP.made w9 13 (by omega) w.heap.size (by omega))
        simp only [show ((13 : Nat) : Int) = 13 from rfl] at hmk
        generalize madeCells #[.int .i64 0, .int .i64 0] (13 * 2) = mc at hmk HMT
        go_wp2
        go_ret
        exact ⟨List.replicate 13 (0, 0), w9.heap.size, 13, by simp, by simp, by rw [List.length_replicate]; exact HMT.out, Src.alloc _ HS.out, Kp.alloc _ HK.out⟩
    go_wp2
    go_ret
    exact ⟨ps, gb, cb, rfl, by omega, HP.out, HS.out, HK.out⟩
set_option maxRecDepth 20000 in
set_option maxHeartbeats 2000000 in
theorem DrawFitOf_c (A : Option Addr) (c : Nat) (zs : List Int) (hz : zs.length ≤ 4096) (w : World) (hA : Byts w A zs) :
    Calls Try.prog 133 #[.slice A zs.length c] w fun e w' => ∃ (x y : Int) (ps : List (Int × Int)) (g c : Nat), e = .returned (.tuple #[.agg #[.int .i64 x, .int .i64 y], .slice (some ⟨g, 0, none⟩) ps.length c]) ∧ ps.length ≤ 13 ∧ OwnP w' w.heap.size 137 (.slice (some ⟨g, 0, none⟩) ps.length c) ps ∧ Below w.heap.size w w' := by
  have HA := Lib.hid hA
  have HR := Lib.hid (Blk.new w 73 #[.int .i64 0, .int .i64 0])
  clear hA
  go_enter Try.func133, Try.ntmps133
  go_wp2_with fail
  go_at_call 105; refine (l01From_c A c zs hz _ (Byts.step (by repeat (with_reducible first | exact Below.refl _ _ | refine Bel.alloc ?_ _)) HA.out)).mono ?_; rintro e w1 ⟨X, rfl, hX, hS, hb1⟩; replace HR := Lib.hid (Blk.step hb1 HR.out); have HS := Lib.hid hS; have HK := Lib.hid (Kp.below (X := X) (a := w) hb1 (by repeat (with_reducible first | exact Kp.refl _ _ | refine Kp.alloc _ ?_ | refine Kp.drew ?_ | refine Kp.drewN _ ?_))); have hlX := hS.lt; have hsz1 := hb1.size; (try simp only [World.size_alloc] at hX hsz1); clear hS hb1
  go_wp2_with fail
  go_at_call 135; refine (l28DrawModel_c X A zs _ (by repeat (with_reducible first | exact HS.out | refine Src.alloc _ ?_ | refine Src.drew ?_ | refine Src.drewN _ ?_ | (refine Src.far _ ?_ ?_; (have := HS.out.lt; first | omega | (simp; omega))) | (refine Src.setRow _ ?_ ?_; (have := HS.out.lt; first | omega | (simp; omega)))))).mono ?_; rintro e w2 ⟨x2, y2, rfl, hd2⟩; have hkb := hd2.kp; have hka := Kp.ka HK.out hkb (by repeat (with_reducible first | exact Kp.refl _ _ | refine Kp.alloc _ ?_ | refine Kp.drew ?_ | refine Kp.drewN _ ?_)); have hlS2 := HS.out.lt; (try (replace HR := Lib.hid (Blk.kp2 hka hkb (by first | omega | (simp; omega)) (by first | omega | (simp; omega)) HR.out))); replace HK := Lib.hid (Kp.trans HK.out (Kp.trans hka hkb)); have hsz2 := hkb.size_; have hsy2 := hka.size_; (try simp only [World.size_alloc, World.size_drew, World.heap_drewN, World.size_setCell] at hsz2 hsy2); replace HS := Lib.hid hd2.src; clear hka hkb hd2 hlS2; have hlS2 := HS.out.lt
  have HM := Lib.hid (Blk.new w2 73 #[.int .i64 x2, .int .i64 y2])
  replace HR := Lib.hid (Blk.alloc (.cells #[.int .i64 x2, .int .i64 y2] 73) HR.out)
  replace HS := Lib.hid (Src.alloc (.cells #[.int .i64 x2, .int .i64 y2] 73) HS.out)
  replace HK := Lib.hid (Kp.alloc (.cells #[.int .i64 x2, .int .i64 y2] 73) HK.out)
  go_upto_region 3 with (fail)
  have hs4 := HM.out.lt
  refine wp_region_held_drew (S := fun W => Blk W w2.heap.size 73 #[.int .i64 x2, .int .i64 y2] ∧ True) (by kernel_rfl) (⟨HM.out.drew, trivial⟩) (fun hHeld => ?_)
  replace HM := Lib.hid HM.out.drew
  replace HR := Lib.hid HR.out.drew
  replace HS := Lib.hid HS.out.drew
  replace HK := Lib.hid HK.out.drew
  have hs5 : (w2.alloc (.cells #[.int .i64 x2, .int .i64 y2] 73)).drew.heap.size = (w2.alloc (.cells #[.int .i64 x2, .int .i64 y2] 73)).heap.size := rfl
  rw [← hs5] at hs4
  clear hs5
  generalize (w2.alloc (.cells #[.int .i64 x2, .int .i64 y2] 73)).drew = w5 at HM HR HS HK hHeld hs4 ⊢
  refine wpAnyH_take (i := 0) (v := .agg #[.int .i64 x2, .int .i64 y2]) rfl (by kernel_rfl) (by kernel_rfl) (by kernel_rfl) (fun _ _ _ h => h) (yieldsIf_load_blk 73 _ (w2.heap.size) (fun _ h => h.1) Try.underlying73 (by kernel_rfl) (by rfl) rfl rfl) hHeld ?_
  simp only [Act.put, List.getElem_toArray, List.getElem_cons_succ, List.getElem_cons_zero, List.setIfInBounds_toArray, List.set_cons_zero, List.set_cons_succ]
  refine wpAnyH_take (i := 1) (v := (.pointer (some ⟨X, 0, none⟩))) rfl (by kernel_rfl) (by kernel_rfl) (by kernel_rfl) (fun _ _ _ h => h) (Or.inl ⟨by rfl, fun w _ => by simp [go_sem, execOp]⟩) hHeld ?_
  simp only [Act.put, List.getElem_toArray, List.getElem_cons_succ, List.getElem_cons_zero, List.setIfInBounds_toArray, List.set_cons_zero, List.set_cons_succ]
  refine wpAnyH_ready (rs := [2]) (by kernel_rfl) (by simp) ?_
  refine AllReadyH.cons rfl (fun K hK => ?_) AllReadyH.nil
  go_simp
  go_at_call 119; refine (l28Draw_c X A zs _ (by repeat (with_reducible first | exact HS.out | refine Src.alloc _ ?_ | refine Src.drew ?_ | refine Src.drewN _ ?_ | (refine Src.far _ ?_ ?_; (have := HS.out.lt; first | omega | (simp; omega))) | (refine Src.setRow _ ?_ ?_; (have := HS.out.lt; first | omega | (simp; omega)))))).mono ?_; rintro e w6 ⟨ps6, g6, c6, rfl, hn6, hO6, hd6⟩; obtain ⟨hq6, hr6⟩ := World.ownsRow.lt hO6 g6 rfl; (try simp only [World.size_alloc] at hq6); have HO6 := Lib.hid hO6; clear hO6; have hkb := hd6.kp; have hka := Kp.ka HK.out hkb (by repeat (with_reducible first | exact Kp.refl _ _ | refine Kp.alloc _ ?_ | refine Kp.drew ?_ | refine Kp.drewN _ ?_)); have hlS6 := HS.out.lt; (try (replace HM := Lib.hid (Blk.kp2 hka hkb (by first | omega | (simp; omega)) (by first | omega | (simp; omega)) HM.out))); (try (replace HR := Lib.hid (Blk.kp2 hka hkb (by first | omega | (simp; omega)) (by first | omega | (simp; omega)) HR.out))); replace HK := Lib.hid (Kp.trans HK.out (Kp.trans hka hkb)); have hsz6 := hkb.size_; have hsy6 := hka.size_; (try simp only [World.size_alloc, World.size_drew, World.heap_drewN, World.size_setCell] at hsz6 hsy6); replace HS := Lib.hid hd6.src; clear hka hkb hd6 hlS6; have hlS6 := HS.out.lt
  go_wp2_with fail
  refine hK.out _ _ (⟨HM.out, trivial⟩) (fun hHeld => ?_)
  clear hK K
  try simp only [Act.put, List.setIfInBounds_toArray, List.set_cons_zero, List.set_cons_succ]
  refine wpAnyH_ready (rs := [3]) (by kernel_rfl) (by simp) ?_
  refine AllReadyH.cons rfl (fun K hK => ?_) AllReadyH.nil
  refine step_store_part 73 _ _ _ 0 (.agg #[.int .i64 x2, .int .i64 y2]) #[.int .i64 x2, .int .i64 y2] (Blk.kp (Kp.ka0 HK.out (by repeat (with_reducible first | exact Kp.refl _ _ | refine Kp.alloc _ ?_ | refine Kp.drew ?_ | refine Kp.drewN _ ?_))) (by first | omega | (simp; omega)) HR.out) rfl rfl rfl rfl rfl (by rfl) (by kernel_rfl) (by simp [Value.oneCell']) (by simp) ?_; intro wS hBS hkb; simp only [setL, List.setIfInBounds_toArray, List.set_cons_zero, List.set_cons_succ] at hBS; have hka := Kp.ka HK.out hkb (by repeat (with_reducible first | exact Kp.refl _ _ | refine Kp.alloc _ ?_ | refine Kp.drew ?_ | refine Kp.drewN _ ?_)); have hlSo := HS.out.lt; (try (replace HM := Lib.hid (Blk.kp2 hka hkb (by first | omega | (simp; omega)) (by first | omega | (simp; omega)) HM.out))); (try (replace HO6 := Lib.hid (OwnP.kp3 hka hkb (by first | omega | (simp; omega)) (by first | omega | (simp; omega)) HO6.out))); (try replace HS := Lib.hid (Src.kpg2 HS.out (by repeat (with_reducible first | exact Below.refl _ _ | refine Bel.alloc ?_ _ | refine Below.drew ?_ | refine Bel.drewN ?_ _)) hkb (by first | omega | (simp; omega)))); replace HR := Lib.hid hBS; replace HK := Lib.hid (Kp.own hkb (by first | omega | (simp; omega)) (Kp.trans HK.out hka)); have hszS := hkb.size_; have hsyS := hka.size_; (try simp only [World.size_alloc, World.size_drew, World.heap_drewN, World.size_setCell] at hszS hsyS); clear hBS hka hkb hlSo; have hlSS := HS.out.lt
  refine hK.out _ _ (⟨HM.out, trivial⟩) (fun hHeld => ?_)
  clear hK K
  try simp only [Act.put, List.setIfInBounds_toArray, List.set_cons_zero, List.set_cons_succ]
  refine wpAnyH_take (i := 4) (v := (.slice (some ⟨g6, 0, none⟩) ps6.length c6)) rfl (by kernel_rfl) (by kernel_rfl) (by kernel_rfl) (fun _ _ _ h => h) (Or.inl ⟨by rfl, fun w _ => by simp [go_sem, execOp]⟩) hHeld ?_
  simp only [Act.put, List.getElem_toArray, List.getElem_cons_succ, List.getElem_cons_zero, List.setIfInBounds_toArray, List.set_cons_zero, List.set_cons_succ]
  refine wpAnyH_done (by kernel_rfl) ?_ _
  go_wp2
  exact bodyPost_ret (results_2 rfl (resF_cell HR.out Try.underlying73 (by kernel_rfl) rfl) (resF_tmp _ rfl)) rfl ⟨x2, y2, ps6, g6, c6, rfl, hn6, OwnP.ge_mono HO6.out (by omega), Kp.toBel HK.out (by omega)⟩
set_option maxRecDepth 20000 in
set_option maxHeartbeats 2000000 in
theorem DrawSeenAt_c (A : Option Addr) (c : Nat) (zs : List Int) (hz : zs.length ≤ 4096) (w : World) (hA : Byts w A zs) :
    Calls Try.prog 126 #[.slice A zs.length c] w fun e w' => ∃ (x y z : Int), e = .returned (.tuple #[.agg #[.int .i64 x, .int .i64 y], .int .i64 z]) ∧ Below w.heap.size w w' := by
  have HA := Lib.hid hA
  have HR := Lib.hid (Blk.new w 73 #[.int .i64 0, .int .i64 0])
  clear hA
  go_enter Try.func126, Try.ntmps126
  go_wp2_with fail
  go_at_call 105; refine (l01From_c A c zs hz _ (Byts.step (by repeat (with_reducible first | exact Below.refl _ _ | refine Bel.alloc ?_ _)) HA.out)).mono ?_; rintro e w1 ⟨X, rfl, hX, hS, hb1⟩; replace HR := Lib.hid (Blk.step hb1 HR.out); have HS := Lib.hid hS; have HK := Lib.hid (Kp.below (X := X) (a := w) hb1 (by repeat (with_reducible first | exact Kp.refl _ _ | refine Kp.alloc _ ?_ | refine Kp.drew ?_ | refine Kp.drewN _ ?_))); have hlX := hS.lt; have hsz1 := hb1.size; (try simp only [World.size_alloc] at hX hsz1); clear hS hb1
  go_wp2_with fail
  go_at_call 135; refine (l28DrawModel_c X A zs _ (by repeat (with_reducible first | exact HS.out | refine Src.alloc _ ?_ | refine Src.drew ?_ | refine Src.drewN _ ?_ | (refine Src.far _ ?_ ?_; (have := HS.out.lt; first | omega | (simp; omega))) | (refine Src.setRow _ ?_ ?_; (have := HS.out.lt; first | omega | (simp; omega)))))).mono ?_; rintro e w2 ⟨x2, y2, rfl, hd2⟩; have hkb := hd2.kp; have hka := Kp.ka HK.out hkb (by repeat (with_reducible first | exact Kp.refl _ _ | refine Kp.alloc _ ?_ | refine Kp.drew ?_ | refine Kp.drewN _ ?_)); have hlS2 := HS.out.lt; (try (replace HR := Lib.hid (Blk.kp2 hka hkb (by first | omega | (simp; omega)) (by first | omega | (simp; omega)) HR.out))); replace HK := Lib.hid (Kp.trans HK.out (Kp.trans hka hkb)); have hsz2 := hkb.size_; have hsy2 := hka.size_; (try simp only [World.size_alloc, World.size_drew, World.heap_drewN, World.size_setCell] at hsz2 hsy2); replace HS := Lib.hid hd2.src; clear hka hkb hd2 hlS2; have hlS2 := HS.out.lt
  have HM := Lib.hid (Blk.new w2 73 #[.int .i64 x2, .int .i64 y2])
  replace HR := Lib.hid (Blk.alloc (.cells #[.int .i64 x2, .int .i64 y2] 73) HR.out)
  replace HS := Lib.hid (Src.alloc (.cells #[.int .i64 x2, .int .i64 y2] 73) HS.out)
  replace HK := Lib.hid (Kp.alloc (.cells #[.int .i64 x2, .int .i64 y2] 73) HK.out)
  go_upto_region 3 with (fail)
  have hs4 := HM.out.lt
  refine wp_region_held_drew (S := fun W => Blk W w2.heap.size 73 #[.int .i64 x2, .int .i64 y2] ∧ True) (by kernel_rfl) (⟨HM.out.drew, trivial⟩) (fun hHeld => ?_)
  replace HM := Lib.hid HM.out.drew
  replace HR := Lib.hid HR.out.drew
  replace HS := Lib.hid HS.out.drew
  replace HK := Lib.hid HK.out.drew
  have hs5 : (w2.alloc (.cells #[.int .i64 x2, .int .i64 y2] 73)).drew.heap.size = (w2.alloc (.cells #[.int .i64 x2, .int .i64 y2] 73)).heap.size := rfl
  rw [← hs5] at hs4
  clear hs5
  generalize (w2.alloc (.cells #[.int .i64 x2, .int .i64 y2] 73)).drew = w5 at HM HR HS HK hHeld hs4 ⊢
  refine wpAnyH_take (i := 0) (v := .agg #[.int .i64 x2, .int .i64 y2]) rfl (by kernel_rfl) (by kernel_rfl) (by kernel_rfl) (fun _ _ _ h => h) (yieldsIf_load_blk 73 _ (w2.heap.size) (fun _ h => h.1) Try.underlying73 (by kernel_rfl) (by rfl) rfl rfl) hHeld ?_
  simp only [Act.put, List.getElem_toArray, List.getElem_cons_succ, List.getElem_cons_zero, List.setIfInBounds_toArray, List.set_cons_zero, List.set_cons_succ]
  refine wpAnyH_take (i := 1) (v := (.pointer (some ⟨X, 0, none⟩))) rfl (by kernel_rfl) (by kernel_rfl) (by kernel_rfl) (fun _ _ _ h => h) (Or.inl ⟨by rfl, fun w _ => by simp [go_sem, execOp]⟩) hHeld ?_
  simp only [Act.put, List.getElem_toArray, List.getElem_cons_succ, List.getElem_cons_zero, List.setIfInBounds_toArray, List.set_cons_zero, List.set_cons_succ]
  refine wpAnyH_take (i := 2) (v := (.pointer (some ⟨X, 0, none⟩))) rfl (by kernel_rfl) (by kernel_rfl) (by kernel_rfl) (fun _ _ _ h => h) (Or.inl ⟨by rfl, fun w _ => by simp [go_sem, execOp]⟩) hHeld ?_
  simp only [Act.put, List.getElem_toArray, List.getElem_cons_succ, List.getElem_cons_zero, List.setIfInBounds_toArray, List.set_cons_zero, List.set_cons_succ]
  refine wpAnyH_take (i := 4) (v := (.pointer (some ⟨X, 0, none⟩))) rfl (by kernel_rfl) (by kernel_rfl) (by kernel_rfl) (fun _ _ _ h => h) (Or.inl ⟨by rfl, fun w _ => by simp [go_sem, execOp]⟩) hHeld ?_
  simp only [Act.put, List.getElem_toArray, List.getElem_cons_succ, List.getElem_cons_zero, List.setIfInBounds_toArray, List.set_cons_zero, List.set_cons_succ]
  refine wpAnyH_ready (rs := [3]) (by kernel_rfl) (by simp) ?_
  refine AllReadyH.cons rfl (fun K hK => ?_) AllReadyH.nil
  go_simp
  go_at_call 112; refine (l01Next_c X A zs _ (by omega) _ (by repeat (with_reducible first | exact HS.out | refine Src.alloc _ ?_ | refine Src.drew ?_ | refine Src.drewN _ ?_ | (refine Src.far _ ?_ ?_; (have := HS.out.lt; first | omega | (simp; omega))) | (refine Src.setRow _ ?_ ?_; (have := HS.out.lt; first | omega | (simp; omega)))))).mono ?_; rintro e w6 ⟨x6, rfl, hx6, hy6, hd6⟩; (try rw [Int.max_eq_left (by omega)] at hy6); have hkb := hd6.kp; have hka := Kp.ka HK.out hkb (by repeat (with_reducible first | exact Kp.refl _ _ | refine Kp.alloc _ ?_ | refine Kp.drew ?_ | refine Kp.drewN _ ?_)); have hlS6 := HS.out.lt; (try (replace HM := Lib.hid (Blk.kp2 hka hkb (by first | omega | (simp; omega)) (by first | omega | (simp; omega)) HM.out))); (try (replace HR := Lib.hid (Blk.kp2 hka hkb (by first | omega | (simp; omega)) (by first | omega | (simp; omega)) HR.out))); replace HK := Lib.hid (Kp.trans HK.out (Kp.trans hka hkb)); have hsz6 := hkb.size_; have hsy6 := hka.size_; (try simp only [World.size_alloc, World.size_drew, World.heap_drewN, World.size_setCell] at hsz6 hsy6); replace HS := Lib.hid hd6.src; clear hka hkb hd6 hlS6; have hlS6 := HS.out.lt
  go_wp2_with fail
  refine hK.out _ _ (⟨HM.out, trivial⟩) (fun hHeld => ?_)
  clear hK K
  try simp only [Act.put, List.setIfInBounds_toArray, List.set_cons_zero, List.set_cons_succ]
  refine wpAnyH_ready (rs := [5]) (by kernel_rfl) (by simp) ?_
  refine AllReadyH.cons rfl (fun K hK => ?_) AllReadyH.nil
  go_simp
  go_at_call 112; refine (l01Next_c X A zs _ (by omega) _ (by repeat (with_reducible first | exact HS.out | refine Src.alloc _ ?_ | refine Src.drew ?_ | refine Src.drewN _ ?_ | (refine Src.far _ ?_ ?_; (have := HS.out.lt; first | omega | (simp; omega))) | (refine Src.setRow _ ?_ ?_; (have := HS.out.lt; first | omega | (simp; omega)))))).mono ?_; rintro e w7 ⟨x7, rfl, hx7, hy7, hd7⟩; (try rw [Int.max_eq_left (by omega)] at hy7); have hkb := hd7.kp; have hka := Kp.ka HK.out hkb (by repeat (with_reducible first | exact Kp.refl _ _ | refine Kp.alloc _ ?_ | refine Kp.drew ?_ | refine Kp.drewN _ ?_)); have hlS7 := HS.out.lt; (try (replace HM := Lib.hid (Blk.kp2 hka hkb (by first | omega | (simp; omega)) (by first | omega | (simp; omega)) HM.out))); (try (replace HR := Lib.hid (Blk.kp2 hka hkb (by first | omega | (simp; omega)) (by first | omega | (simp; omega)) HR.out))); replace HK := Lib.hid (Kp.trans HK.out (Kp.trans hka hkb)); have hsz7 := hkb.size_; have hsy7 := hka.size_; (try simp only [World.size_alloc, World.size_drew, World.heap_drewN, World.size_setCell] at hsz7 hsy7); replace HS := Lib.hid hd7.src; clear hka hkb hd7 hlS7; have hlS7 := HS.out.lt
  go_wp2_with fail
  refine hK.out _ _ (⟨HM.out, trivial⟩) (fun hHeld => ?_)
  clear hK K
  try simp only [Act.put, List.setIfInBounds_toArray, List.set_cons_zero, List.set_cons_succ]
  refine wpAnyH_ready (rs := [6]) (by kernel_rfl) (by simp) ?_
  refine AllReadyH.cons rfl (fun K hK => ?_) (AllReadyH.nil)
  go_simp
  have HN := Lib.hid (Blk.new w7 2 #[.int .i64 0, .int .i64 x6, .int .i64 100000, .int .i64 100001, .int .i64 (-1), .int .i64 x7])
  replace HM := Lib.hid (Blk.alloc (.cells #[.int .i64 0, .int .i64 x6, .int .i64 100000, .int .i64 100001, .int .i64 (-1), .int .i64 x7] 2) HM.out)
  replace HR := Lib.hid (Blk.alloc (.cells #[.int .i64 0, .int .i64 x6, .int .i64 100000, .int .i64 100001, .int .i64 (-1), .int .i64 x7] 2) HR.out)
  replace HS := Lib.hid (Src.alloc (.cells #[.int .i64 0, .int .i64 x6, .int .i64 100000, .int .i64 100001, .int .i64 (-1), .int .i64 x7] 2) HS.out)
  replace HK := Lib.hid (Kp.alloc (.cells #[.int .i64 0, .int .i64 x6, .int .i64 100000, .int .i64 100001, .int .i64 (-1), .int .i64 x7] 2) HK.out)
  refine hK.out _ _ (⟨HM.out, trivial⟩) (fun hHeld => ?_)
  clear hK K
  try simp only [Act.put, List.setIfInBounds_toArray, List.set_cons_zero, List.set_cons_succ]
  refine wpAnyH_ready (rs := [7]) (by kernel_rfl) (by simp) ?_
  refine AllReadyH.cons rfl (fun K hK => ?_) AllReadyH.nil
  go_simp
  go_at_call 120; refine (l01Pick_c X A zs _ _ 2 _ _ (by repeat (with_reducible first | exact HS.out | refine Src.alloc _ ?_ | refine Src.drew ?_ | refine Src.drewN _ ?_ | (refine Src.far _ ?_ ?_; (have := HS.out.lt; first | omega | (simp; omega))) | (refine Src.setRow _ ?_ ?_; (have := HS.out.lt; first | omega | (simp; omega))))) (by repeat (first | exact Blk.new _ _ _ | refine Blk.alloc _ ?_)) (by rfl) (by omega) (by omega) (by simp [isI]) (Nat.ne_of_gt (by have := HS.out.lt; first | omega | (simp; omega)))).mono ?_; rintro e w8 ⟨x8, i8, hi8, hp8, rfl, hd8⟩; have HP8 := Lib.hid hp8; clear hp8; have hkb := hd8.kp; have hka := Kp.ka HK.out hkb (by repeat (with_reducible first | exact Kp.refl _ _ | refine Kp.alloc _ ?_ | refine Kp.drew ?_ | refine Kp.drewN _ ?_)); have hlS8 := HS.out.lt; (try (replace HM := Lib.hid (Blk.kp2 hka hkb (by first | omega | (simp; omega)) (by first | omega | (simp; omega)) HM.out))); (try (replace HR := Lib.hid (Blk.kp2 hka hkb (by first | omega | (simp; omega)) (by first | omega | (simp; omega)) HR.out))); replace HK := Lib.hid (Kp.trans HK.out (Kp.trans hka hkb)); have hsz8 := hkb.size_; have hsy8 := hka.size_; (try simp only [World.size_alloc, World.size_drew, World.heap_drewN, World.size_setCell] at hsz8 hsy8); replace HS := Lib.hid hd8.src; clear hka hkb hd8 hlS8; have hlS8 := HS.out.lt
  go_wp2_with fail
  refine hK.out _ _ (⟨HM.out, trivial⟩) (fun hHeld => ?_)
  clear hK K
  try simp only [Act.put, List.setIfInBounds_toArray, List.set_cons_zero, List.set_cons_succ]
  refine wpAnyH_ready (rs := [8]) (by kernel_rfl) (by simp) ?_
  refine AllReadyH.cons rfl (fun K hK => ?_) AllReadyH.nil
  refine step_store_part 73 _ _ _ 0 (.agg #[.int .i64 x2, .int .i64 y2]) #[.int .i64 x2, .int .i64 y2] (Blk.kp (Kp.ka0 HK.out (by repeat (with_reducible first | exact Kp.refl _ _ | refine Kp.alloc _ ?_ | refine Kp.drew ?_ | refine Kp.drewN _ ?_))) (by first | omega | (simp; omega)) HR.out) rfl rfl rfl rfl rfl (by rfl) (by kernel_rfl) (by simp [Value.oneCell']) (by simp) ?_; intro wS hBS hkb; simp only [setL, List.setIfInBounds_toArray, List.set_cons_zero, List.set_cons_succ] at hBS; have hka := Kp.ka HK.out hkb (by repeat (with_reducible first | exact Kp.refl _ _ | refine Kp.alloc _ ?_ | refine Kp.drew ?_ | refine Kp.drewN _ ?_)); have hlSo := HS.out.lt; (try (replace HM := Lib.hid (Blk.kp2 hka hkb (by first | omega | (simp; omega)) (by first | omega | (simp; omega)) HM.out))); (try replace HS := Lib.hid (Src.kpg2 HS.out (by repeat (with_reducible first | exact Below.refl _ _ | refine Bel.alloc ?_ _ | refine Below.drew ?_ | refine Bel.drewN ?_ _)) hkb (by first | omega | (simp; omega)))); replace HR := Lib.hid hBS; replace HK := Lib.hid (Kp.own hkb (by first | omega | (simp; omega)) (Kp.trans HK.out hka)); have hszS := hkb.size_; have hsyS := hka.size_; (try simp only [World.size_alloc, World.size_drew, World.heap_drewN, World.size_setCell] at hszS hsyS); clear hBS hka hkb hlSo; have hlSS := HS.out.lt
  refine hK.out _ _ (⟨HM.out, trivial⟩) (fun hHeld => ?_)
  clear hK K
  try simp only [Act.put, List.setIfInBounds_toArray, List.set_cons_zero, List.set_cons_succ]
  refine wpAnyH_take (i := 9) (v := (.int .i64 x8)) rfl (by kernel_rfl) (by kernel_rfl) (by kernel_rfl) (fun _ _ _ h => h) (Or.inl ⟨by rfl, fun w _ => by simp [go_sem, execOp]⟩) hHeld ?_
  simp only [Act.put, List.getElem_toArray, List.getElem_cons_succ, List.getElem_cons_zero, List.setIfInBounds_toArray, List.set_cons_zero, List.set_cons_succ]
  refine wpAnyH_done (by kernel_rfl) ?_ _
  go_wp2
  exact bodyPost_ret (results_2 rfl (resF_cell HR.out Try.underlying73 (by kernel_rfl) rfl) (resF_tmp _ rfl)) rfl ⟨x2, y2, x8, rfl, Kp.toBel HK.out (by omega)⟩
end Go.Proofs.Ytpmcgicopogbhaa
