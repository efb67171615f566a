/- Draws: figures. Conditions: as stated at each contract. -/
import Derived.Test.YtpmcgicopogbhaaGreatProg
import Derived.Test.YtpmcgicopogbhaaGreatBase
import Derived.Test.YtpmcgicopogbhaaGreatZz
import Derived.Test.YtpmcgicopogbhaaGreatRw
import Derived.Test.YtpmcgicopogbhaaGreatRg
import Derived.Test.YtpmcgicopogbhaaGreatL01
import Derived.Test.YtpmcgicopogbhaaGreatCp
import Derived.Test.YtpmcgicopogbhaaGreatL18
import Derived.Test.YtpmcgicopogbhaaGreatD00
import Derived.Test.YtpmcgicopogbhaaGreatD01
import Derived.WalkKit
import Derived.WalkSpells
import Derived.WalkLawsBesides
import Derived.Lib.Hide
import Derived.Deep.QuietTactic
import Derived.BigQuiet
import Derived.Deep.Draws
import Derived.Deep.RegionHeld3
import Derived.Deep.Cut
namespace Go.Proofs.YtpmcgicopogbhaaGreat
open Go.RowKit
set_option linter.unusedVariables false
set_option linter.unusedSimpArgs false
/-- A call that draws a figure; ok: it is valid. -/
def DrF (ok : Bool) (X : Nat) (A : Option Addr) (zs : List Int) (w : World) (e : Ending) (w' : World) : Prop := ∃ d t : Int, e = .returned (.agg #[.int .i64 d, .int .i64 t]) ∧ (ok = true → okF d t = true) ∧ Dr X A zs w w'
set_option maxHeartbeats 1000000 in
theorem l02Valid_c (X : Nat) (A : Option Addr) (zs : List Int) (w : World) (hS : Src w X A zs) :
    Calls Tryz.prog 96 #[.pointer (some ⟨X, 0, none⟩)] w (DrF true X A zs w) := by
  have hlX := hS.lt
  have HS := Lib.hid (Src.alloc (.cells #[.int .i64 0, .int .i64 0] 25) hS)
  have HK := Lib.hid (Kp.alloc (.cells #[.int .i64 0, .int .i64 0] 25) (Kp.refl X w))
  have HR := Lib.hid (Blk.new w 25 #[.int .i64 0, .int .i64 0])
  clear hS
  go_enter Tryz.func96, Tryz.ntmps96
  go_wp2_with fail
  go_at_call 46; refine (l01Next_c X A zs _ (by omega) _ (zsr HS)).mono ?_; rintro e w1 ⟨x1, rfl, hx1, hy1, hd1⟩; (try rw [Int.max_eq_left (by omega)] at hy1); have hkb := hd1.kp; have hka := zka HK hkb; have hlS1 := HS.out.lt; (try replace HR := zb hka hkb HR); replace HK := zt HK hka hkb; have hsz1 := hkb.size_; have hsy1 := hka.size_; (try simp only [World.size_alloc, World.size_drew, World.heap_drewN, World.size_setCell] at hsz1 hsy1); replace HS := Lib.hid hd1.src; clear hka hkb hd1 hlS1; have hlS1 := HS.out.lt
  go_wp2_with fail
  go_at_call 46; refine (l01Next_c X A zs _ (by omega) _ (zsr HS)).mono ?_; rintro e w2 ⟨x2, rfl, hx2, hy2, hd2⟩; (try rw [Int.max_eq_left (by omega)] at hy2); have hkb := hd2.kp; have hka := zka HK hkb; have hlS2 := HS.out.lt; (try replace HR := zb hka hkb HR); replace HK := zt HK hka hkb; have hsz2 := hkb.size_; have hsy2 := hka.size_; (try simp only [World.size_alloc, World.size_drew, World.heap_drewN, World.size_setCell] at hsz2 hsy2); replace HS := Lib.hid hd2.src; clear hka hkb hd2 hlS2; have hlS2 := HS.out.lt
  go_wp2_with fail
  go_at_call 46; refine (l01Next_c X A zs _ (by omega) _ (zsr HS)).mono ?_; rintro e w3 ⟨x3, rfl, hx3, hy3, hd3⟩; (try rw [Int.max_eq_left (by omega)] at hy3); have hkb := hd3.kp; have hka := zka HK hkb; have hlS3 := HS.out.lt; (try replace HR := zb hka hkb HR); replace HK := zt HK hka hkb; have hsz3 := hkb.size_; have hsy3 := hka.size_; (try simp only [World.size_alloc, World.size_drew, World.heap_drewN, World.size_setCell] at hsz3 hsy3); replace HS := Lib.hid hd3.src; clear hka hkb hd3 hlS3; have hlS3 := HS.out.lt
  go_wp2_with fail
  go_at_call 46; refine (l01Next_c X A zs _ (by omega) _ (zsr HS)).mono ?_; rintro e w4 ⟨x4, rfl, hx4, hy4, hd4⟩; (try rw [Int.max_eq_left (by omega)] at hy4); have hkb := hd4.kp; have hka := zka HK hkb; have hlS4 := HS.out.lt; (try replace HR := zb hka hkb HR); replace HK := zt HK hka hkb; have hsz4 := hkb.size_; have hsy4 := hka.size_; (try simp only [World.size_alloc, World.size_drew, World.heap_drewN, World.size_setCell] at hsz4 hsy4); replace HS := Lib.hid hd4.src; clear hka hkb hd4 hlS4; have hlS4 := HS.out.lt
  go_wp2_with fail
  go_at_call 79; refine (l01Pick_c X A zs _ _ 2 _ _ (zsr HS) (by repeat (first | exact Blk.new _ _ _ | refine Blk.alloc _ ?_)) (by rfl) (by omega) (by omega) (by simp [isI]) (Nat.ne_of_gt (by have := HS.out.lt; first | omega | (simp; omega)))).mono ?_; rintro e w5 ⟨x5, i5, hi5, hp5, rfl, hd5⟩; have HP5 := Lib.hid hp5; clear hp5; have hkb := hd5.kp; have hka := zka HK hkb; have hlS5 := HS.out.lt; (try replace HR := zb hka hkb HR); replace HK := zt HK hka hkb; have hsz5 := hkb.size_; have hsy5 := hka.size_; (try simp only [World.size_alloc, World.size_drew, World.heap_drewN, World.size_setCell] at hsz5 hsy5); replace HS := Lib.hid hd5.src; clear hka hkb hd5 hlS5; have hlS5 := HS.out.lt
  go_wp2_with fail
  go_at_call 46; refine (l01Next_c X A zs _ (by omega) _ (zsr HS)).mono ?_; rintro e w6 ⟨x6, rfl, hx6, hy6, hd6⟩; (try rw [Int.max_eq_left (by omega)] at hy6); have hkb := hd6.kp; have hka := zka HK hkb; have hlS6 := HS.out.lt; (try replace HR := zb hka hkb HR); replace HK := zt HK hka hkb; have hsz6 := hkb.size_; have hsy6 := hka.size_; (try simp only [World.size_alloc, World.size_drew, World.heap_drewN, World.size_setCell] at hsz6 hsy6); replace HS := Lib.hid hd6.src; clear hka hkb hd6 hlS6; have hlS6 := HS.out.lt
  go_wp2_with (first | (refine wpList_store_part 25 _ _ _ 0 _ _ (Blk.kp (zk0 HK) (by first | omega | (simp; omega)) HR.out) rfl rfl rfl rfl (by rfl) (by kernel_rfl) (by simp [go_sem, Value.cells, Value.oneCell']) (by simp [go_sem, Value.cells]) ?_; intro wS hBS hkb; simp [go_sem, Value.cells, setL] at hBS; have hka := zka HK hkb; have hlSo := HS.out.lt; (try replace HS := Lib.hid (Src.kpg2 HS.out (by repeat (with_reducible first | exact Below.refl _ _ | refine Bel.alloc ?_ _ | refine Below.drew ?_ | refine Bel.drewN ?_ _)) hkb (by first | omega | (simp; omega)))); replace HR := Lib.hid hBS; replace HK := Lib.hid (Kp.own hkb (by first | omega | (simp; omega)) (Kp.trans HK.out hka)); have hszS := hkb.size_; have hsyS := hka.size_; (try simp only [World.size_alloc, World.size_drew, World.heap_drewN, World.size_setCell] at hszS hsyS); clear hBS hka hkb hlSo; have hlSS := HS.out.lt))
  have hF : okF x5 (x6 - 3) = true := by
    have h := HP5.out
    have : i5 = 0 ∨ i5 = 1 ∨ i5 = 2 ∨ i5 = 3 := by have : i5 < 4 := hi5; omega
    rcases this with rfl | rfl | rfl | rfl <;> (simp at h; subst h; simp [okF, inB]; omega)
  exact bodyPost_ret (results_blk HR.out Tryz.underlying25 (by kernel_rfl) rfl rfl) rfl ⟨_, _, rfl, fun _ => hF, HS.out, HK.out⟩
set_option maxHeartbeats 1000000 in
theorem l02Draw_c (X : Nat) (A : Option Addr) (zs : List Int) (w : World) (hS : Src w X A zs) :
    Calls Tryz.prog 89 #[.pointer (some ⟨X, 0, none⟩)] w (DrF false X A zs w) := by
  have hlX := hS.lt
  have HS := Lib.hid (Src.alloc (.cells #[.int .i64 0, .int .i64 0] 25) hS)
  have HK := Lib.hid (Kp.alloc (.cells #[.int .i64 0, .int .i64 0] 25) (Kp.refl X w))
  have HR := Lib.hid (Blk.new w 25 #[.int .i64 0, .int .i64 0])
  clear hS
  go_enter Tryz.func89, Tryz.ntmps89
  go_wp2_with fail
  go_at_call 96; refine (l02Valid_c X A zs _ (zsr HS)).mono ?_; rintro e w1 ⟨d1, t1, rfl, ho1, hd1⟩; have HO1 := Lib.hid ho1; clear ho1; have hkb := hd1.kp; have hka := zka HK hkb; have hlS1 := HS.out.lt; (try replace HR := zb hka hkb HR); replace HK := zt HK hka hkb; have hsz1 := hkb.size_; have hsy1 := hka.size_; (try simp only [World.size_alloc, World.size_drew, World.heap_drewN, World.size_setCell] at hsz1 hsy1); replace HS := Lib.hid hd1.src; clear hka hkb hd1 hlS1; have hlS1 := HS.out.lt
  have HF := Lib.hid (Blk.new w1 25 #[.int .i64 d1, .int .i64 t1])
  replace HR := Lib.hid (Blk.alloc (.cells #[.int .i64 d1, .int .i64 t1] 25) HR.out)
  replace HS := Lib.hid (Src.alloc (.cells #[.int .i64 d1, .int .i64 t1] 25) HS.out)
  replace HK := Lib.hid (Kp.alloc (.cells #[.int .i64 d1, .int .i64 t1] 25) HK.out)
  go_wp2_with fail
  go_at_call 46; refine (l01Next_c X A zs _ (by omega) _ (zsr HS)).mono ?_; rintro e w2 ⟨x2, rfl, hx2, hy2, hd2⟩; (try rw [Int.max_eq_left (by omega)] at hy2); have hkb := hd2.kp; have hka := zka HK hkb; have hlS2 := HS.out.lt; (try replace HR := zb hka hkb HR); (try replace HF := zb hka hkb HF); replace HK := zt HK hka hkb; have hsz2 := hkb.size_; have hsy2 := hka.size_; (try simp only [World.size_alloc, World.size_drew, World.heap_drewN, World.size_setCell] at hsz2 hsy2); replace HS := Lib.hid hd2.src; clear hka hkb hd2 hlS2; have hlS2 := HS.out.lt
  by_cases h0 : x2 = 0
  · go_wp2_with fail
    go_at_call 79; refine (l01Pick_c X A zs _ _ 2 _ _ (zsr HS) (by repeat (first | exact Blk.new _ _ _ | refine Blk.alloc _ ?_)) (by rfl) (by omega) (by omega) (by simp [isI]) (Nat.ne_of_gt (by have := HS.out.lt; first | omega | (simp; omega)))).mono ?_; rintro e w3 ⟨x3, i3, hi3, hp3, rfl, hd3⟩; have HP3 := Lib.hid hp3; clear hp3; have hkb := hd3.kp; have hka := zka HK hkb; have hlS3 := HS.out.lt; (try replace HR := zb hka hkb HR); (try replace HF := zb hka hkb HF); replace HK := zt HK hka hkb; have hsz3 := hkb.size_; have hsy3 := hka.size_; (try simp only [World.size_alloc, World.size_drew, World.heap_drewN, World.size_setCell] at hsz3 hsy3); replace HS := Lib.hid hd3.src; clear hka hkb hd3 hlS3; have hlS3 := HS.out.lt
    go_wp2_with (first | (refine wpList_store_part 2 _ _ _ 0 _ _ (Blk.kp (zk0 HK) (by first | omega | (simp; omega)) HF.out) rfl rfl rfl rfl (by rfl) (by kernel_rfl) (by simp [go_sem, Value.cells, Value.oneCell']) (by simp [go_sem, Value.cells]) ?_; intro wS hBS hkb; simp [go_sem, Value.cells, setL] at hBS; have hka := zka HK hkb; have hlSo := HS.out.lt; (try replace HR := zb hka hkb HR); (try replace HS := Lib.hid (Src.kpg2 HS.out (by repeat (with_reducible first | exact Below.refl _ _ | refine Bel.alloc ?_ _ | refine Below.drew ?_ | refine Bel.drewN ?_ _)) hkb (by first | omega | (simp; omega)))); replace HF := Lib.hid hBS; replace HK := Lib.hid (Kp.own hkb (by first | omega | (simp; omega)) (Kp.trans HK.out hka)); have hszS := hkb.size_; have hsyS := hka.size_; (try simp only [World.size_alloc, World.size_drew, World.heap_drewN, World.size_setCell] at hszS hsyS); clear hBS hka hkb hlSo; have hlSS := HS.out.lt) | (refine wpList_load_blkG 25 _ _ (Blk.kp (zk0 HK) (by first | omega | (simp; omega)) HF.out) Tryz.underlying25 (by kernel_rfl) rfl rfl (by rfl) ?_) | (refine wpList_store_part 25 _ _ _ 0 _ _ (Blk.kp (zk0 HK) (by first | omega | (simp; omega)) HR.out) rfl rfl rfl rfl (by rfl) (by kernel_rfl) (by simp [go_sem, Value.cells, Value.oneCell']) (by simp [go_sem, Value.cells]) ?_; intro wS hBS hkb; simp [go_sem, Value.cells, setL] at hBS; have hka := zka HK hkb; have hlSo := HS.out.lt; (try replace HF := zb hka hkb HF); (try replace HS := Lib.hid (Src.kpg2 HS.out (by repeat (with_reducible first | exact Below.refl _ _ | refine Bel.alloc ?_ _ | refine Below.drew ?_ | refine Bel.drewN ?_ _)) hkb (by first | omega | (simp; omega)))); replace HR := Lib.hid hBS; replace HK := Lib.hid (Kp.own hkb (by first | omega | (simp; omega)) (Kp.trans HK.out hka)); have hszS := hkb.size_; have hsyS := hka.size_; (try simp only [World.size_alloc, World.size_drew, World.heap_drewN, World.size_setCell] at hszS hsyS); clear hBS hka hkb hlSo; have hlSS := HS.out.lt))
    exact bodyPost_ret (results_blk HR.out Tryz.underlying25 (by kernel_rfl) rfl rfl) rfl ⟨_, _, rfl, (fun h => (by cases h)), HS.out, HK.out⟩
  by_cases h1 : x2 = 1
  · go_wp2_with fail
    go_at_call 79; refine (l01Pick_c X A zs _ _ 2 _ _ (zsr HS) (by repeat (first | exact Blk.new _ _ _ | refine Blk.alloc _ ?_)) (by rfl) (by omega) (by omega) (by simp [isI]) (Nat.ne_of_gt (by have := HS.out.lt; first | omega | (simp; omega)))).mono ?_; rintro e w3 ⟨x3, i3, hi3, hp3, rfl, hd3⟩; have HP3 := Lib.hid hp3; clear hp3; have hkb := hd3.kp; have hka := zka HK hkb; have hlS3 := HS.out.lt; (try replace HR := zb hka hkb HR); (try replace HF := zb hka hkb HF); replace HK := zt HK hka hkb; have hsz3 := hkb.size_; have hsy3 := hka.size_; (try simp only [World.size_alloc, World.size_drew, World.heap_drewN, World.size_setCell] at hsz3 hsy3); replace HS := Lib.hid hd3.src; clear hka hkb hd3 hlS3; have hlS3 := HS.out.lt
    go_wp2_with (first | (refine wpList_store_part 2 _ _ _ 1 _ _ (Blk.kp (zk0 HK) (by first | omega | (simp; omega)) HF.out) rfl rfl rfl rfl (by rfl) (by kernel_rfl) (by simp [go_sem, Value.cells, Value.oneCell']) (by simp [go_sem, Value.cells]) ?_; intro wS hBS hkb; simp [go_sem, Value.cells, setL] at hBS; have hka := zka HK hkb; have hlSo := HS.out.lt; (try replace HR := zb hka hkb HR); (try replace HS := Lib.hid (Src.kpg2 HS.out (by repeat (with_reducible first | exact Below.refl _ _ | refine Bel.alloc ?_ _ | refine Below.drew ?_ | refine Bel.drewN ?_ _)) hkb (by first | omega | (simp; omega)))); replace HF := Lib.hid hBS; replace HK := Lib.hid (Kp.own hkb (by first | omega | (simp; omega)) (Kp.trans HK.out hka)); have hszS := hkb.size_; have hsyS := hka.size_; (try simp only [World.size_alloc, World.size_drew, World.heap_drewN, World.size_setCell] at hszS hsyS); clear hBS hka hkb hlSo; have hlSS := HS.out.lt) | (refine wpList_load_blkG 25 _ _ (Blk.kp (zk0 HK) (by first | omega | (simp; omega)) HF.out) Tryz.underlying25 (by kernel_rfl) rfl rfl (by rfl) ?_) | (refine wpList_store_part 25 _ _ _ 0 _ _ (Blk.kp (zk0 HK) (by first | omega | (simp; omega)) HR.out) rfl rfl rfl rfl (by rfl) (by kernel_rfl) (by simp [go_sem, Value.cells, Value.oneCell']) (by simp [go_sem, Value.cells]) ?_; intro wS hBS hkb; simp [go_sem, Value.cells, setL] at hBS; have hka := zka HK hkb; have hlSo := HS.out.lt; (try replace HF := zb hka hkb HF); (try replace HS := Lib.hid (Src.kpg2 HS.out (by repeat (with_reducible first | exact Below.refl _ _ | refine Bel.alloc ?_ _ | refine Below.drew ?_ | refine Bel.drewN ?_ _)) hkb (by first | omega | (simp; omega)))); replace HR := Lib.hid hBS; replace HK := Lib.hid (Kp.own hkb (by first | omega | (simp; omega)) (Kp.trans HK.out hka)); have hszS := hkb.size_; have hsyS := hka.size_; (try simp only [World.size_alloc, World.size_drew, World.heap_drewN, World.size_setCell] at hszS hsyS); clear hBS hka hkb hlSo; have hlSS := HS.out.lt))
    exact bodyPost_ret (results_blk HR.out Tryz.underlying25 (by kernel_rfl) rfl rfl) rfl ⟨_, _, rfl, (fun h => (by cases h)), HS.out, HK.out⟩
  go_wp2_with (first | (refine wpList_load_blkG 25 _ _ (Blk.kp (zk0 HK) (by first | omega | (simp; omega)) HF.out) Tryz.underlying25 (by kernel_rfl) rfl rfl (by rfl) ?_) | (refine wpList_store_part 25 _ _ _ 0 _ _ (Blk.kp (zk0 HK) (by first | omega | (simp; omega)) HR.out) rfl rfl rfl rfl (by rfl) (by kernel_rfl) (by simp [go_sem, Value.cells, Value.oneCell']) (by simp [go_sem, Value.cells]) ?_; intro wS hBS hkb; simp [go_sem, Value.cells, setL] at hBS; have hka := zka HK hkb; have hlSo := HS.out.lt; (try replace HF := zb hka hkb HF); (try replace HS := Lib.hid (Src.kpg2 HS.out (by repeat (with_reducible first | exact Below.refl _ _ | refine Bel.alloc ?_ _ | refine Below.drew ?_ | refine Bel.drewN ?_ _)) hkb (by first | omega | (simp; omega)))); replace HR := Lib.hid hBS; replace HK := Lib.hid (Kp.own hkb (by first | omega | (simp; omega)) (Kp.trans HK.out hka)); have hszS := hkb.size_; have hsyS := hka.size_; (try simp only [World.size_alloc, World.size_drew, World.heap_drewN, World.size_setCell] at hszS hsyS); clear hBS hka hkb hlSo; have hlSS := HS.out.lt))
  exact bodyPost_ret (results_blk HR.out Tryz.underlying25 (by kernel_rfl) rfl rfl) rfl ⟨_, _, rfl, (fun h => (by cases h)), HS.out, HK.out⟩
open Go.RowKit
set_option linter.unusedVariables false
set_option linter.unusedSimpArgs false
theorem l06DrawEye_c (X : Nat) (A : Option Addr) (zs : List Int) (w : World) (hS : Src w X A zs) :
    Calls Tryz.prog 52 #[.pointer (some ⟨X, 0, none⟩)] w (DrZ X A zs w) := by
  have HS := Lib.hid hS
  have HK := Lib.hid (Kp.refl X w)
  clear hS
  go_enter Tryz.func52, Tryz.ntmps52
  go_wp2_with fail
  go_at_call 46; refine (l01Next_c X A zs _ (by omega) _ (zsr HS)).mono ?_; rintro e w1 ⟨x1, rfl, hx1, hy1, hd1⟩; (try rw [Int.max_eq_left (by omega)] at hy1); have hkb := hd1.kp; have hka := zka HK hkb; have hlS1 := HS.out.lt; replace HK := zt HK hka hkb; have hsz1 := hkb.size_; have hsy1 := hka.size_; (try simp only [World.size_alloc, World.size_drew, World.heap_drewN, World.size_setCell] at hsz1 hsy1); replace HS := Lib.hid hd1.src; clear hka hkb hd1 hlS1; have hlS1 := HS.out.lt
  go_wp2_with fail
  go_at_call 79; refine (l01Pick_c X A zs _ _ 2 _ _ (zsr HS) (by repeat (first | exact Blk.new _ _ _ | refine Blk.alloc _ ?_)) (by rfl) (by omega) (by omega) (by simp [isI]) (Nat.ne_of_gt (by have := HS.out.lt; first | omega | (simp; omega)))).mono ?_; rintro e w2 ⟨x2, i2, hi2, hp2, rfl, hd2⟩; have HP2 := Lib.hid hp2; clear hp2; have hkb := hd2.kp; have hka := zka HK hkb; have hlS2 := HS.out.lt; replace HK := zt HK hka hkb; have hsz2 := hkb.size_; have hsy2 := hka.size_; (try simp only [World.size_alloc, World.size_drew, World.heap_drewN, World.size_setCell] at hsz2 hsy2); replace HS := Lib.hid hd2.src; clear hka hkb hd2 hlS2; have hlS2 := HS.out.lt
  go_wp2
  go_ret
  exact ⟨_, rfl, HS.out, HK.out⟩
end Go.Proofs.YtpmcgicopogbhaaGreat
