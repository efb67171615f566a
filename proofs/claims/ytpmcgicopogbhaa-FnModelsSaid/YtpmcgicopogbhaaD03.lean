/- Draws: numbers. Conditions: as stated at each contract. -/
import Derived.Test.YtpmcgicopogbhaaProg
import Derived.Test.YtpmcgicopogbhaaBase
import Derived.Test.YtpmcgicopogbhaaRw
import Derived.Test.YtpmcgicopogbhaaRg
import Derived.Test.YtpmcgicopogbhaaL01
import Derived.Test.YtpmcgicopogbhaaD00
import Derived.Test.YtpmcgicopogbhaaD01
import Derived.WalkKit
import Derived.WalkSpells
import Derived.WalkLawsBesides
import Derived.Lib.Hide
namespace Go.Proofs.Ytpmcgicopogbhaa
open Go.RowKit
set_option linter.unusedVariables false
set_option linter.unusedSimpArgs false
theorem l06DrawEye_c (X : Nat) (A : Option Addr) (zs : List Int) (w : World) (hS : Src w X A zs) :
    Calls Try.prog 176 #[.pointer (some ⟨X, 0, none⟩)] w (DrZ X A zs w) := by
  have HS := Lib.hid hS
  have HK := Lib.hid (Kp.refl X w)
  clear hS
  go_enter Try.func176, Try.ntmps176
  go_wp2_with fail
  go_at_call 112; refine (l01Next_c X A zs _ (by omega) _ (by repeat (with_reducible first | exact HS.out | refine Src.alloc _ ?_ | refine Src.drew ?_ | refine Src.drewN _ ?_ | (refine Src.far _ ?_ ?_; (have := HS.out.lt; first | omega | (simp; omega))) | (refine Src.setRow _ ?_ ?_; (have := HS.out.lt; first | omega | (simp; omega)))))).mono ?_; rintro e w1 ⟨x1, rfl, hx1, hy1, hd1⟩; (try rw [Int.max_eq_left (by omega)] at hy1); have hkb := hd1.kp; have hka := Kp.ka HK.out hkb (by repeat (with_reducible first | exact Kp.refl _ _ | refine Kp.alloc _ ?_ | refine Kp.drew ?_ | refine Kp.drewN _ ?_)); have hlS1 := HS.out.lt; replace HK := Lib.hid (Kp.trans HK.out (Kp.trans hka hkb)); have hsz1 := hkb.size_; have hsy1 := hka.size_; (try simp only [World.size_alloc, World.size_drew, World.heap_drewN, World.size_setCell] at hsz1 hsy1); replace HS := Lib.hid hd1.src; clear hka hkb hd1 hlS1; have hlS1 := HS.out.lt
  go_wp2_with fail
  go_at_call 120; refine (l01Pick_c X A zs _ _ 2 _ _ (by repeat (with_reducible first | exact HS.out | refine Src.alloc _ ?_ | refine Src.drew ?_ | refine Src.drewN _ ?_ | (refine Src.far _ ?_ ?_; (have := HS.out.lt; first | omega | (simp; omega))) | (refine Src.setRow _ ?_ ?_; (have := HS.out.lt; first | omega | (simp; omega))))) (by repeat (first | exact Blk.new _ _ _ | refine Blk.alloc _ ?_)) (by rfl) (by omega) (by omega) (by simp [isI]) (Nat.ne_of_gt (by have := HS.out.lt; first | omega | (simp; omega)))).mono ?_; rintro e w2 ⟨x2, i2, hi2, hp2, rfl, hd2⟩; have HP2 := Lib.hid hp2; clear hp2; have hkb := hd2.kp; have hka := Kp.ka HK.out hkb (by repeat (with_reducible first | exact Kp.refl _ _ | refine Kp.alloc _ ?_ | refine Kp.drew ?_ | refine Kp.drewN _ ?_)); have hlS2 := HS.out.lt; replace HK := Lib.hid (Kp.trans HK.out (Kp.trans hka hkb)); have hsz2 := hkb.size_; have hsy2 := hka.size_; (try simp only [World.size_alloc, World.size_drew, World.heap_drewN, World.size_setCell] at hsz2 hsy2); replace HS := Lib.hid hd2.src; clear hka hkb hd2 hlS2; have hlS2 := HS.out.lt
  go_wp2
  go_ret
  exact ⟨_, rfl, HS.out, HK.out⟩
theorem l23DrawScale_c (X : Nat) (A : Option Addr) (zs : List Int) (w : World) (hS : Src w X A zs) :
    Calls Try.prog 165 #[.pointer (some ⟨X, 0, none⟩)] w (DrZ X A zs w) := by
  have HS := Lib.hid hS
  have HK := Lib.hid (Kp.refl X w)
  clear hS
  go_enter Try.func165, Try.ntmps165
  go_wp2_with fail
  go_at_call 112; refine (l01Next_c X A zs _ (by omega) _ (by repeat (with_reducible first | exact HS.out | refine Src.alloc _ ?_ | refine Src.drew ?_ | refine Src.drewN _ ?_ | (refine Src.far _ ?_ ?_; (have := HS.out.lt; first | omega | (simp; omega))) | (refine Src.setRow _ ?_ ?_; (have := HS.out.lt; first | omega | (simp; omega)))))).mono ?_; rintro e w1 ⟨x1, rfl, hx1, hy1, hd1⟩; (try rw [Int.max_eq_left (by omega)] at hy1); have hkb := hd1.kp; have hka := Kp.ka HK.out hkb (by repeat (with_reducible first | exact Kp.refl _ _ | refine Kp.alloc _ ?_ | refine Kp.drew ?_ | refine Kp.drewN _ ?_)); have hlS1 := HS.out.lt; replace HK := Lib.hid (Kp.trans HK.out (Kp.trans hka hkb)); have hsz1 := hkb.size_; have hsy1 := hka.size_; (try simp only [World.size_alloc, World.size_drew, World.heap_drewN, World.size_setCell] at hsz1 hsy1); replace HS := Lib.hid hd1.src; clear hka hkb hd1 hlS1; have hlS1 := HS.out.lt
  go_wp2_with fail
  go_at_call 112; refine (l01Next_c X A zs _ (by omega) _ (by repeat (with_reducible first | exact HS.out | refine Src.alloc _ ?_ | refine Src.drew ?_ | refine Src.drewN _ ?_ | (refine Src.far _ ?_ ?_; (have := HS.out.lt; first | omega | (simp; omega))) | (refine Src.setRow _ ?_ ?_; (have := HS.out.lt; first | omega | (simp; omega)))))).mono ?_; rintro e w2 ⟨x2, rfl, hx2, hy2, hd2⟩; (try rw [Int.max_eq_left (by omega)] at hy2); have hkb := hd2.kp; have hka := Kp.ka HK.out hkb (by repeat (with_reducible first | exact Kp.refl _ _ | refine Kp.alloc _ ?_ | refine Kp.drew ?_ | refine Kp.drewN _ ?_)); have hlS2 := HS.out.lt; replace HK := Lib.hid (Kp.trans HK.out (Kp.trans hka hkb)); have hsz2 := hkb.size_; have hsy2 := hka.size_; (try simp only [World.size_alloc, World.size_drew, World.heap_drewN, World.size_setCell] at hsz2 hsy2); replace HS := Lib.hid hd2.src; clear hka hkb hd2 hlS2; have hlS2 := HS.out.lt
  go_wp2_with fail
  go_at_call 112; refine (l01Next_c X A zs _ (by omega) _ (by repeat (with_reducible first | exact HS.out | refine Src.alloc _ ?_ | refine Src.drew ?_ | refine Src.drewN _ ?_ | (refine Src.far _ ?_ ?_; (have := HS.out.lt; first | omega | (simp; omega))) | (refine Src.setRow _ ?_ ?_; (have := HS.out.lt; first | omega | (simp; omega)))))).mono ?_; rintro e w3 ⟨x3, rfl, hx3, hy3, hd3⟩; (try rw [Int.max_eq_left (by omega)] at hy3); have hkb := hd3.kp; have hka := Kp.ka HK.out hkb (by repeat (with_reducible first | exact Kp.refl _ _ | refine Kp.alloc _ ?_ | refine Kp.drew ?_ | refine Kp.drewN _ ?_)); have hlS3 := HS.out.lt; replace HK := Lib.hid (Kp.trans HK.out (Kp.trans hka hkb)); have hsz3 := hkb.size_; have hsy3 := hka.size_; (try simp only [World.size_alloc, World.size_drew, World.heap_drewN, World.size_setCell] at hsz3 hsy3); replace HS := Lib.hid hd3.src; clear hka hkb hd3 hlS3; have hlS3 := HS.out.lt
  go_wp2
  go_ret
  exact ⟨_, rfl, HS.out, HK.out⟩
theorem l05DrawScale_c (X : Nat) (A : Option Addr) (zs : List Int) (w : World) (hS : Src w X A zs) :
    Calls Try.prog 136 #[.pointer (some ⟨X, 0, none⟩)] w (DrZ X A zs w) := by
  have HS := Lib.hid hS
  have HK := Lib.hid (Kp.refl X w)
  clear hS
  go_enter Try.func136, Try.ntmps136
  go_wp2_with fail
  go_at_call 112; refine (l01Next_c X A zs _ (by omega) _ (by repeat (with_reducible first | exact HS.out | refine Src.alloc _ ?_ | refine Src.drew ?_ | refine Src.drewN _ ?_ | (refine Src.far _ ?_ ?_; (have := HS.out.lt; first | omega | (simp; omega))) | (refine Src.setRow _ ?_ ?_; (have := HS.out.lt; first | omega | (simp; omega)))))).mono ?_; rintro e w1 ⟨x1, rfl, hx1, hy1, hd1⟩; (try rw [Int.max_eq_left (by omega)] at hy1); have hkb := hd1.kp; have hka := Kp.ka HK.out hkb (by repeat (with_reducible first | exact Kp.refl _ _ | refine Kp.alloc _ ?_ | refine Kp.drew ?_ | refine Kp.drewN _ ?_)); have hlS1 := HS.out.lt; replace HK := Lib.hid (Kp.trans HK.out (Kp.trans hka hkb)); have hsz1 := hkb.size_; have hsy1 := hka.size_; (try simp only [World.size_alloc, World.size_drew, World.heap_drewN, World.size_setCell] at hsz1 hsy1); replace HS := Lib.hid hd1.src; clear hka hkb hd1 hlS1; have hlS1 := HS.out.lt
  go_wp2_with fail
  go_at_call 112; refine (l01Next_c X A zs _ (by omega) _ (by repeat (with_reducible first | exact HS.out | refine Src.alloc _ ?_ | refine Src.drew ?_ | refine Src.drewN _ ?_ | (refine Src.far _ ?_ ?_; (have := HS.out.lt; first | omega | (simp; omega))) | (refine Src.setRow _ ?_ ?_; (have := HS.out.lt; first | omega | (simp; omega)))))).mono ?_; rintro e w2 ⟨x2, rfl, hx2, hy2, hd2⟩; (try rw [Int.max_eq_left (by omega)] at hy2); have hkb := hd2.kp; have hka := Kp.ka HK.out hkb (by repeat (with_reducible first | exact Kp.refl _ _ | refine Kp.alloc _ ?_ | refine Kp.drew ?_ | refine Kp.drewN _ ?_)); have hlS2 := HS.out.lt; replace HK := Lib.hid (Kp.trans HK.out (Kp.trans hka hkb)); have hsz2 := hkb.size_; have hsy2 := hka.size_; (try simp only [World.size_alloc, World.size_drew, World.heap_drewN, World.size_setCell] at hsz2 hsy2); replace HS := Lib.hid hd2.src; clear hka hkb hd2 hlS2; have hlS2 := HS.out.lt
  go_wp2_with fail
  go_at_call 112; refine (l01Next_c X A zs _ (by omega) _ (by repeat (with_reducible first | exact HS.out | refine Src.alloc _ ?_ | refine Src.drew ?_ | refine Src.drewN _ ?_ | (refine Src.far _ ?_ ?_; (have := HS.out.lt; first | omega | (simp; omega))) | (refine Src.setRow _ ?_ ?_; (have := HS.out.lt; first | omega | (simp; omega)))))).mono ?_; rintro e w3 ⟨x3, rfl, hx3, hy3, hd3⟩; (try rw [Int.max_eq_left (by omega)] at hy3); have hkb := hd3.kp; have hka := Kp.ka HK.out hkb (by repeat (with_reducible first | exact Kp.refl _ _ | refine Kp.alloc _ ?_ | refine Kp.drew ?_ | refine Kp.drewN _ ?_)); have hlS3 := HS.out.lt; replace HK := Lib.hid (Kp.trans HK.out (Kp.trans hka hkb)); have hsz3 := hkb.size_; have hsy3 := hka.size_; (try simp only [World.size_alloc, World.size_drew, World.heap_drewN, World.size_setCell] at hsz3 hsy3); replace HS := Lib.hid hd3.src; clear hka hkb hd3 hlS3; have hlS3 := HS.out.lt
  go_wp2
  go_ret
  exact ⟨_, rfl, HS.out, HK.out⟩
end Go.Proofs.Ytpmcgicopogbhaa
