/- Draws: projections, points in line. Conditions: as stated at each contract. -/
import Derived.Test.YthfphjbaglgacaaProg
import Derived.Test.YthfphjbaglgacaaBase
import Derived.Test.YthfphjbaglgacaaRw
import Derived.Test.YthfphjbaglgacaaRg
import Derived.Test.YthfphjbaglgacaaL01
import Derived.Test.YthfphjbaglgacaaCp
import Derived.Test.YthfphjbaglgacaaCm
import Derived.Test.YthfphjbaglgacaaL18
import Derived.Test.YthfphjbaglgacaaL25
import Derived.Test.YthfphjbaglgacaaL25b
import Derived.Test.YthfphjbaglgacaaL25g
import Derived.Test.YthfphjbaglgacaaD00
import Derived.Test.YthfphjbaglgacaaD01
import Derived.Test.YthfphjbaglgacaaD02
import Derived.Test.YthfphjbaglgacaaD03
import Derived.Test.YthfphjbaglgacaaD18
import Derived.Test.YthfphjbaglgacaaD25
import Derived.WalkKit
import Derived.WalkSpells
import Derived.WalkLawsBesides
import Derived.Lib.Hide
import Derived.Deep.QuietTactic
import Derived.BigQuiet
import Derived.Deep.Draws
import Derived.Deep.RegionHeld3
import Derived.Deep.Cut
import Derived.Deep.AppendLies
namespace Go.Proofs.Ythfphjbaglgacaa
open Go.RowKit
set_option linter.unusedVariables false
set_option linter.unusedSimpArgs false
set_option maxHeartbeats 2000000 in
theorem DrawInverseProjection_c (A : Option Addr) (c : Nat) (zs : List Int) (hz : zs.length ≤ 4096) (w : World) (hA : Byts w A zs) :
    Calls Try.prog 26 #[.slice A zs.length c] w (MQ w) := by
  have HA := Lib.hid hA
  clear hA
  go_enter Try.func26, Try.ntmps26
  go_wp2_with fail
  go_at_call 70; refine (l01From_c A c zs hz _ (Byts.step (by repeat (with_reducible first | exact Below.refl _ _ | refine Bel.alloc ?_ _)) HA.out)).mono ?_; rintro e w1 ⟨X, rfl, hX, hS, hb1⟩; have HS := Lib.hid hS; have HK := Lib.hid (Kp.below (X := X) (a := w) hb1 (by repeat (with_reducible first | exact Kp.refl _ _ | refine Kp.alloc _ ?_ | refine Kp.drew ?_ | refine Kp.drewN _ ?_))); have hlX := hS.lt; have hsz1 := hb1.size; (try simp only [World.size_alloc] at hX hsz1); clear hS hb1
  go_wp2_with fail
  go_at_call 88; refine (l25Draw_c X A zs _ (by repeat (with_reducible first | exact HS.out | refine Src.alloc _ ?_ | refine Src.drew ?_ | refine Src.drewN _ ?_ | (refine Src.far _ ?_ ?_; (have := HS.out.lt; first | omega | (simp; omega))) | (refine Src.setRow _ ?_ ?_; (have := HS.out.lt; first | omega | (simp; omega)))))).mono ?_; rintro e w2 ⟨m2, g2, c2, rfl, hn2, hO2, hd2⟩; obtain ⟨hq2, hr2⟩ := World.ownsRow.lt hO2 g2 rfl; (try simp only [World.size_alloc] at hq2); have HO2 := Lib.hid hO2; clear hO2; have hkb := hd2.kp; have hka := Kp.ka HK.out hkb (by repeat (with_reducible first | exact Kp.refl _ _ | refine Kp.alloc _ ?_ | refine Kp.drew ?_ | refine Kp.drewN _ ?_)); have hlS2 := HS.out.lt; replace HK := Lib.hid (Kp.trans HK.out (Kp.trans hka hkb)); have hsz2 := hkb.size_; have hsy2 := hka.size_; (try simp only [World.size_alloc, World.size_drew, World.heap_drewN, World.size_setCell] at hsz2 hsy2); replace HS := Lib.hid hd2.src; clear hka hkb hd2 hlS2; have hlS2 := HS.out.lt
  have hfin : ∀ (m' : List Int) (W : World), m'.length = m2.length → Own W w1.heap.size 2 (.slice (some ⟨g2, 0, none⟩) m2.length c2) m' → Below w.heap.size w W → MQ w (.returned (.slice (some ⟨g2, 0, none⟩) m2.length c2)) W := by
    intro m' W h1 h2 h3
    rw [← h1] at h2 ⊢
    exact ⟨m', g2, c2, rfl, by omega, Own.ge_mono h2 (by omega), h3⟩
  have HFin := Lib.hid hfin
  clear hfin
  by_cases h9 : m2.length = 9
  rotate_left
  · have hb9 : ((m2.length : Int) == 9) = false := by rw [beq_eq_false_iff_ne]; omega
    have hb9' : (m2.length == 9) = false := by rw [beq_eq_false_iff_ne]; omega
    clear h9
    go_wp2
    go_ret
    exact HFin.out _ _ rfl HO2.out (Kp.toBel HK.out (by omega))
  have hb9 : ((m2.length : Int) == 9) = true := by rw [beq_iff_eq]; omega
  have hb9' : (m2.length == 9) = true := by rw [beq_iff_eq]; omega
  have hl0 : ¬ (m2.length : Int) ≤ 0 := by omega
  have hl4 : ¬ (m2.length : Int) ≤ 4 := by omega
  have hln : 0 < m2.length := by omega
  have hl4' : 4 < m2.length := by omega
  clear h9
  go_wp2_with fail
  go_at_call 73; refine (l01Next_c X A zs _ (by omega) _ (by repeat (with_reducible first | exact HS.out | refine Src.alloc _ ?_ | refine Src.drew ?_ | refine Src.drewN _ ?_ | (refine Src.far _ ?_ ?_; (have := HS.out.lt; first | omega | (simp; omega))) | (refine Src.setRow _ ?_ ?_; (have := HS.out.lt; first | omega | (simp; omega)))))).mono ?_; rintro e w3 ⟨x3, rfl, hx3, hy3, hd3⟩; (try rw [Int.max_eq_left (by omega)] at hy3); have hkb := hd3.kp; have hka := Kp.ka HK.out hkb (by repeat (with_reducible first | exact Kp.refl _ _ | refine Kp.alloc _ ?_ | refine Kp.drew ?_ | refine Kp.drewN _ ?_)); have hlS3 := HS.out.lt; (try (replace HO2 := Lib.hid (Own.kp3 hka hkb (by first | omega | (simp; omega)) (by first | omega | (simp; omega)) HO2.out))); replace HK := Lib.hid (Kp.trans HK.out (Kp.trans hka hkb)); have hsz3 := hkb.size_; have hsy3 := hka.size_; (try simp only [World.size_alloc, World.size_drew, World.heap_drewN, World.size_setCell] at hsz3 hsy3); replace HS := Lib.hid hd3.src; clear hka hkb hd3 hlS3; have hlS3 := HS.out.lt
  by_cases h3 : x3 = 0
  · go_wp2_with (first | (refine wpList_store_own 2 _ _ _ _ HO2.out rfl rfl rfl rfl (by kernel_rfl) (by (try simp only [List.length_set]); omega) ?_; intro wS hOS hkb; replace HO2 := Lib.hid hOS; replace HS := Lib.hid (Src.kpg hkb (by omega) HS.out); replace HK := Lib.hid (Kp.own hkb (by omega) HK.out); have hsS := hkb.size_; clear hkb hOS))
    go_ret
    exact HFin.out _ _ (by simp) HO2.out (Kp.toBel HK.out (by omega))
  · go_wp2
    go_ret
    exact HFin.out _ _ rfl HO2.out (Kp.toBel HK.out (by omega))
/-- Two lists are drawn. -/
def MmQ (w : World) (e : Ending) (w' : World) : Prop := ∃ (m : List Int) (g c : Nat) (n : List Int) (h d : Nat), e = .returned (.tuple #[.slice (some ⟨g, 0, none⟩) m.length c, .slice (some ⟨h, 0, none⟩) n.length d]) ∧ m.length ≤ 9 ∧ n.length ≤ 9 ∧ Own w' w.heap.size 2 (.slice (some ⟨g, 0, none⟩) m.length c) m ∧ Own w' w.heap.size 2 (.slice (some ⟨h, 0, none⟩) n.length d) n ∧ Below w.heap.size w w'
set_option maxHeartbeats 2000000 in
theorem DrawComposeProjections_c (A : Option Addr) (c : Nat) (zs : List Int) (hz : zs.length ≤ 4096) (w : World) (hA : Byts w A zs) :
    Calls Try.prog 35 #[.slice A zs.length c] w (MmQ w) := by
  have HA := Lib.hid hA
  clear hA
  go_enter Try.func35, Try.ntmps35
  go_wp2_with fail
  go_at_call 70; refine (l01From_c A c zs hz _ (Byts.step (by repeat (with_reducible first | exact Below.refl _ _ | refine Bel.alloc ?_ _)) HA.out)).mono ?_; rintro e w1 ⟨X, rfl, hX, hS, hb1⟩; have HS := Lib.hid hS; have HK := Lib.hid (Kp.below (X := X) (a := w) hb1 (by repeat (with_reducible first | exact Kp.refl _ _ | refine Kp.alloc _ ?_ | refine Kp.drew ?_ | refine Kp.drewN _ ?_))); have hlX := hS.lt; have hsz1 := hb1.size; (try simp only [World.size_alloc] at hX hsz1); clear hS hb1
  go_wp2_with fail
  go_at_call 88; refine (l25Draw_c X A zs _ (by repeat (with_reducible first | exact HS.out | refine Src.alloc _ ?_ | refine Src.drew ?_ | refine Src.drewN _ ?_ | (refine Src.far _ ?_ ?_; (have := HS.out.lt; first | omega | (simp; omega))) | (refine Src.setRow _ ?_ ?_; (have := HS.out.lt; first | omega | (simp; omega)))))).mono ?_; rintro e w3 ⟨m3, g3, c3, rfl, hn3, hO3, hd3⟩; obtain ⟨hq3, hr3⟩ := World.ownsRow.lt hO3 g3 rfl; (try simp only [World.size_alloc] at hq3); have HO3 := Lib.hid hO3; clear hO3; have hkb := hd3.kp; have hka := Kp.ka HK.out hkb (by repeat (with_reducible first | exact Kp.refl _ _ | refine Kp.alloc _ ?_ | refine Kp.drew ?_ | refine Kp.drewN _ ?_)); have hlS3 := HS.out.lt; replace HK := Lib.hid (Kp.trans HK.out (Kp.trans hka hkb)); have hsz3 := hkb.size_; have hsy3 := hka.size_; (try simp only [World.size_alloc, World.size_drew, World.heap_drewN, World.size_setCell] at hsz3 hsy3); replace HS := Lib.hid hd3.src; clear hka hkb hd3 hlS3; have hlS3 := HS.out.lt
  go_wp2_with fail
  go_at_call 88; refine (l25Draw_c X A zs _ (by repeat (with_reducible first | exact HS.out | refine Src.alloc _ ?_ | refine Src.drew ?_ | refine Src.drewN _ ?_ | (refine Src.far _ ?_ ?_; (have := HS.out.lt; first | omega | (simp; omega))) | (refine Src.setRow _ ?_ ?_; (have := HS.out.lt; first | omega | (simp; omega)))))).mono ?_; rintro e w2 ⟨m2, g2, c2, rfl, hn2, hO2, hd2⟩; obtain ⟨hq2, hr2⟩ := World.ownsRow.lt hO2 g2 rfl; (try simp only [World.size_alloc] at hq2); have HO2 := Lib.hid hO2; clear hO2; have hkb := hd2.kp; have hka := Kp.ka HK.out hkb (by repeat (with_reducible first | exact Kp.refl _ _ | refine Kp.alloc _ ?_ | refine Kp.drew ?_ | refine Kp.drewN _ ?_)); have hlS2 := HS.out.lt; (try (replace HO3 := Lib.hid (Own.kp3 hka hkb (by first | omega | (simp; omega)) (by first | omega | (simp; omega)) HO3.out))); replace HK := Lib.hid (Kp.trans HK.out (Kp.trans hka hkb)); have hsz2 := hkb.size_; have hsy2 := hka.size_; (try simp only [World.size_alloc, World.size_drew, World.heap_drewN, World.size_setCell] at hsz2 hsy2); replace HS := Lib.hid hd2.src; clear hka hkb hd2 hlS2; have hlS2 := HS.out.lt
  have hfin : ∀ (m' : List Int) (W : World), m'.length = m2.length → Own W w3.heap.size 2 (.slice (some ⟨g2, 0, none⟩) m2.length c2) m' → Own W w1.heap.size 2 (.slice (some ⟨g3, 0, none⟩) m3.length c3) m3 → Below w.heap.size w W → MmQ w (.returned (.tuple #[.slice (some ⟨g3, 0, none⟩) m3.length c3, .slice (some ⟨g2, 0, none⟩) m2.length c2])) W := by
    intro m' W h1 h2 h4 h3
    rw [← h1] at h2 ⊢
    exact ⟨m3, g3, c3, m', g2, c2, rfl, hn3, by omega, Own.ge_mono h4 (by omega), Own.ge_mono h2 (by omega), h3⟩
  have HFin := Lib.hid hfin
  clear hfin
  by_cases h9 : m2.length = 9
  rotate_left
  · have hb9 : ((m2.length : Int) == 9) = false := by rw [beq_eq_false_iff_ne]; omega
    have hb9' : (m2.length == 9) = false := by rw [beq_eq_false_iff_ne]; omega
    clear h9
    go_wp2
    go_ret2
    exact HFin.out _ _ rfl HO2.out HO3.out (Kp.toBel HK.out (by omega))
  have hb9 : ((m2.length : Int) == 9) = true := by rw [beq_iff_eq]; omega
  have hb9' : (m2.length == 9) = true := by rw [beq_iff_eq]; omega
  have hl0 : ¬ (m2.length : Int) ≤ 0 := by omega
  have hln : 0 < m2.length := by omega
  clear h9
  go_wp2_with fail
  go_at_call 73; refine (l01Next_c X A zs _ (by omega) _ (by repeat (with_reducible first | exact HS.out | refine Src.alloc _ ?_ | refine Src.drew ?_ | refine Src.drewN _ ?_ | (refine Src.far _ ?_ ?_; (have := HS.out.lt; first | omega | (simp; omega))) | (refine Src.setRow _ ?_ ?_; (have := HS.out.lt; first | omega | (simp; omega)))))).mono ?_; rintro e w4 ⟨x4, rfl, hx4, hy4, hd4⟩; (try rw [Int.max_eq_left (by omega)] at hy4); have hkb := hd4.kp; have hka := Kp.ka HK.out hkb (by repeat (with_reducible first | exact Kp.refl _ _ | refine Kp.alloc _ ?_ | refine Kp.drew ?_ | refine Kp.drewN _ ?_)); have hlS4 := HS.out.lt; (try (replace HO2 := Lib.hid (Own.kp3 hka hkb (by first | omega | (simp; omega)) (by first | omega | (simp; omega)) HO2.out))); (try (replace HO3 := Lib.hid (Own.kp3 hka hkb (by first | omega | (simp; omega)) (by first | omega | (simp; omega)) HO3.out))); replace HK := Lib.hid (Kp.trans HK.out (Kp.trans hka hkb)); have hsz4 := hkb.size_; have hsy4 := hka.size_; (try simp only [World.size_alloc, World.size_drew, World.heap_drewN, World.size_setCell] at hsz4 hsy4); replace HS := Lib.hid hd4.src; clear hka hkb hd4 hlS4; have hlS4 := HS.out.lt
  by_cases h3 : x4 = 0
  · go_wp2_with (first | (refine wpList_store_own 2 _ _ _ _ HO2.out rfl rfl rfl rfl (by kernel_rfl) (by (try simp only [List.length_set]); omega) ?_; intro wS hOS hkb; replace HO2 := Lib.hid hOS; replace HS := Lib.hid (Src.kpg hkb (by omega) HS.out); replace HK := Lib.hid (Kp.own hkb (by omega) HK.out); replace HO3 := Lib.hid (Own.kpB HO3.out hkb (by omega)); have hsS := hkb.size_; clear hkb hOS))
    go_ret2
    exact HFin.out _ _ (by simp) HO2.out HO3.out (Kp.toBel HK.out (by omega))
  · go_wp2
    go_ret2
    exact HFin.out _ _ rfl HO2.out HO3.out (Kp.toBel HK.out (by omega))
set_option maxRecDepth 20000 in
set_option maxHeartbeats 4000000 in
theorem DrawRationalsInLine_c (A : Option Addr) (c : Nat) (zs : List Int) (hz : zs.length ≤ 4096) (w : World) (hA : Byts w A zs) :
    Calls Try.prog 29 #[.slice A zs.length c] w fun e w' => ∃ a b c d e' f g h i : Int, e = .returned (.tuple #[.agg #[.int .i64 a, .int .i64 b, .int .i64 c], .agg #[.int .i64 d, .int .i64 e', .int .i64 f], .agg #[.int .i64 g, .int .i64 h, .int .i64 i]]) ∧ Below w.heap.size w w' := by
  have HA := Lib.hid hA
  have HB := Lib.hid (Below.refl w.heap.size w)
  have HR1 := Lib.hid (by have h := Blk.new w 45 #[.int .i64 0, .int .i64 0, .int .i64 0]; (try simp only [World.size_alloc] at h); exact h)
  replace HB := Lib.hid (Bel.alloc HB.out (.cells #[.int .i64 0, .int .i64 0, .int .i64 0] 45))
  have HR2 := Lib.hid (by have h := Blk.new (w.alloc (.cells #[.int .i64 0, .int .i64 0, .int .i64 0] 45)) 45 #[.int .i64 0, .int .i64 0, .int .i64 0]; (try simp only [World.size_alloc] at h); exact h)
  replace HR1 := Lib.hid (Blk.alloc (.cells #[.int .i64 0, .int .i64 0, .int .i64 0] 45) HR1.out)
  replace HB := Lib.hid (Bel.alloc HB.out (.cells #[.int .i64 0, .int .i64 0, .int .i64 0] 45))
  have HR3 := Lib.hid (by have h := Blk.new ((w.alloc (.cells #[.int .i64 0, .int .i64 0, .int .i64 0] 45)).alloc (.cells #[.int .i64 0, .int .i64 0, .int .i64 0] 45)) 45 #[.int .i64 0, .int .i64 0, .int .i64 0]; (try simp only [World.size_alloc] at h); exact h)
  replace HR1 := Lib.hid (Blk.alloc (.cells #[.int .i64 0, .int .i64 0, .int .i64 0] 45) HR1.out)
  replace HR2 := Lib.hid (Blk.alloc (.cells #[.int .i64 0, .int .i64 0, .int .i64 0] 45) HR2.out)
  replace HB := Lib.hid (Bel.alloc HB.out (.cells #[.int .i64 0, .int .i64 0, .int .i64 0] 45))
  clear hA
  go_enter Try.func29, Try.ntmps29
  go_wp2_with fail
  go_at_call 70; refine (l01From_c A c zs hz _ (Byts.step (by repeat (with_reducible first | exact Below.refl _ _ | refine Bel.alloc ?_ _)) HA.out)).mono ?_; rintro e w1 ⟨X, rfl, hX, hS, hb1⟩; replace HR1 := Lib.hid (Blk.step hb1 HR1.out); replace HR2 := Lib.hid (Blk.step hb1 HR2.out); replace HR3 := Lib.hid (Blk.step hb1 HR3.out); have HS := Lib.hid hS; have HK := Lib.hid (Kp.below (X := X) (a := w) hb1 (by repeat (with_reducible first | exact Kp.refl _ _ | refine Kp.alloc _ ?_ | refine Kp.drew ?_ | refine Kp.drewN _ ?_))); have hlX := hS.lt; have hsz1 := hb1.size; (try simp only [World.size_alloc] at hX hsz1); clear hS hb1
  go_wp2_with fail
  go_at_call 89; refine (l25DrawPoint_c X A zs _ (by repeat (with_reducible first | exact HS.out | refine Src.alloc _ ?_ | refine Src.drew ?_ | refine Src.drewN _ ?_ | (refine Src.far _ ?_ ?_; (have := HS.out.lt; first | omega | (simp; omega))) | (refine Src.setRow _ ?_ ?_; (have := HS.out.lt; first | omega | (simp; omega)))))).mono ?_; rintro e w2 ⟨x2, y2, z2, rfl, hd2⟩; have hkb := hd2.kp; have hka := Kp.ka HK.out hkb (by repeat (with_reducible first | exact Kp.refl _ _ | refine Kp.alloc _ ?_ | refine Kp.drew ?_ | refine Kp.drewN _ ?_)); have hlS2 := HS.out.lt; (try (replace HR1 := Lib.hid (Blk.kp2 hka hkb (by first | omega | (simp; omega)) (by first | omega | (simp; omega)) HR1.out))); (try (replace HR2 := Lib.hid (Blk.kp2 hka hkb (by first | omega | (simp; omega)) (by first | omega | (simp; omega)) HR2.out))); (try (replace HR3 := Lib.hid (Blk.kp2 hka hkb (by first | omega | (simp; omega)) (by first | omega | (simp; omega)) HR3.out))); replace HK := Lib.hid (Kp.trans HK.out (Kp.trans hka hkb)); have hsz2 := hkb.size_; have hsy2 := hka.size_; (try simp only [World.size_alloc, World.size_drew, World.heap_drewN, World.size_setCell] at hsz2 hsy2); replace HS := Lib.hid hd2.src; clear hka hkb hd2 hlS2; have hlS2 := HS.out.lt
  go_wp2_with fail
  go_at_call 89; refine (l25DrawPoint_c X A zs _ (by repeat (with_reducible first | exact HS.out | refine Src.alloc _ ?_ | refine Src.drew ?_ | refine Src.drewN _ ?_ | (refine Src.far _ ?_ ?_; (have := HS.out.lt; first | omega | (simp; omega))) | (refine Src.setRow _ ?_ ?_; (have := HS.out.lt; first | omega | (simp; omega)))))).mono ?_; rintro e w3 ⟨x3, y3, z3, rfl, hd3⟩; have hkb := hd3.kp; have hka := Kp.ka HK.out hkb (by repeat (with_reducible first | exact Kp.refl _ _ | refine Kp.alloc _ ?_ | refine Kp.drew ?_ | refine Kp.drewN _ ?_)); have hlS3 := HS.out.lt; (try (replace HR1 := Lib.hid (Blk.kp2 hka hkb (by first | omega | (simp; omega)) (by first | omega | (simp; omega)) HR1.out))); (try (replace HR2 := Lib.hid (Blk.kp2 hka hkb (by first | omega | (simp; omega)) (by first | omega | (simp; omega)) HR2.out))); (try (replace HR3 := Lib.hid (Blk.kp2 hka hkb (by first | omega | (simp; omega)) (by first | omega | (simp; omega)) HR3.out))); replace HK := Lib.hid (Kp.trans HK.out (Kp.trans hka hkb)); have hsz3 := hkb.size_; have hsy3 := hka.size_; (try simp only [World.size_alloc, World.size_drew, World.heap_drewN, World.size_setCell] at hsz3 hsy3); replace HS := Lib.hid hd3.src; clear hka hkb hd3 hlS3; have hlS3 := HS.out.lt
  go_wp2_with fail
  go_at_call 89; refine (l25DrawPoint_c X A zs _ (by repeat (with_reducible first | exact HS.out | refine Src.alloc _ ?_ | refine Src.drew ?_ | refine Src.drewN _ ?_ | (refine Src.far _ ?_ ?_; (have := HS.out.lt; first | omega | (simp; omega))) | (refine Src.setRow _ ?_ ?_; (have := HS.out.lt; first | omega | (simp; omega)))))).mono ?_; rintro e w4 ⟨x4, y4, z4, rfl, hd4⟩; have hkb := hd4.kp; have hka := Kp.ka HK.out hkb (by repeat (with_reducible first | exact Kp.refl _ _ | refine Kp.alloc _ ?_ | refine Kp.drew ?_ | refine Kp.drewN _ ?_)); have hlS4 := HS.out.lt; (try (replace HR1 := Lib.hid (Blk.kp2 hka hkb (by first | omega | (simp; omega)) (by first | omega | (simp; omega)) HR1.out))); (try (replace HR2 := Lib.hid (Blk.kp2 hka hkb (by first | omega | (simp; omega)) (by first | omega | (simp; omega)) HR2.out))); (try (replace HR3 := Lib.hid (Blk.kp2 hka hkb (by first | omega | (simp; omega)) (by first | omega | (simp; omega)) HR3.out))); replace HK := Lib.hid (Kp.trans HK.out (Kp.trans hka hkb)); have hsz4 := hkb.size_; have hsy4 := hka.size_; (try simp only [World.size_alloc, World.size_drew, World.heap_drewN, World.size_setCell] at hsz4 hsy4); replace HS := Lib.hid hd4.src; clear hka hkb hd4 hlS4; have hlS4 := HS.out.lt
  clear HB HA
  have hX4 : X < w4.heap.size := hlS4
  have HP := Lib.hid (Blk.new w4 45 #[.int .i64 x2, .int .i64 y2, .int .i64 z2])
  have HQ := Lib.hid (by have h := Blk.new (w4.alloc (.cells #[.int .i64 x2, .int .i64 y2, .int .i64 z2] 45)) 45 #[.int .i64 x3, .int .i64 y3, .int .i64 z3]; simp only [World.size_alloc] at h; exact h)
  have HT := Lib.hid (by have h := Blk.new ((w4.alloc (.cells #[.int .i64 x2, .int .i64 y2, .int .i64 z2] 45)).alloc (.cells #[.int .i64 x3, .int .i64 y3, .int .i64 z3] 45)) 45 #[.int .i64 x4, .int .i64 y4, .int .i64 z4]; simp only [World.size_alloc] at h; exact h)
  replace HP := Lib.hid (Blk.alloc (.cells #[.int .i64 x4, .int .i64 y4, .int .i64 z4] 45) (Blk.alloc (.cells #[.int .i64 x3, .int .i64 y3, .int .i64 z3] 45) HP.out))
  replace HQ := Lib.hid (Blk.alloc (.cells #[.int .i64 x4, .int .i64 y4, .int .i64 z4] 45) HQ.out)
  replace HR1 := Lib.hid (Blk.alloc (.cells #[.int .i64 x4, .int .i64 y4, .int .i64 z4] 45) (Blk.alloc (.cells #[.int .i64 x3, .int .i64 y3, .int .i64 z3] 45) (Blk.alloc (.cells #[.int .i64 x2, .int .i64 y2, .int .i64 z2] 45) HR1.out)))
  replace HR2 := Lib.hid (Blk.alloc (.cells #[.int .i64 x4, .int .i64 y4, .int .i64 z4] 45) (Blk.alloc (.cells #[.int .i64 x3, .int .i64 y3, .int .i64 z3] 45) (Blk.alloc (.cells #[.int .i64 x2, .int .i64 y2, .int .i64 z2] 45) HR2.out)))
  replace HR3 := Lib.hid (Blk.alloc (.cells #[.int .i64 x4, .int .i64 y4, .int .i64 z4] 45) (Blk.alloc (.cells #[.int .i64 x3, .int .i64 y3, .int .i64 z3] 45) (Blk.alloc (.cells #[.int .i64 x2, .int .i64 y2, .int .i64 z2] 45) HR3.out)))
  replace HS := Lib.hid (Src.alloc (.cells #[.int .i64 x4, .int .i64 y4, .int .i64 z4] 45) (Src.alloc (.cells #[.int .i64 x3, .int .i64 y3, .int .i64 z3] 45) (Src.alloc (.cells #[.int .i64 x2, .int .i64 y2, .int .i64 z2] 45) HS.out)))
  replace HK := Lib.hid (Kp.alloc (.cells #[.int .i64 x4, .int .i64 y4, .int .i64 z4] 45) (Kp.alloc (.cells #[.int .i64 x3, .int .i64 y3, .int .i64 z3] 45) (Kp.alloc (.cells #[.int .i64 x2, .int .i64 y2, .int .i64 z2] 45) HK.out)))
  go_wp2_with fail
  go_at_call 92; refine (l25Is_c _ _ _ _).mono ?_; rintro e w5 ⟨rfl, hb5⟩; replace HR1 := Lib.hid (Blk.step hb5 HR1.out); replace HR2 := Lib.hid (Blk.step hb5 HR2.out); replace HR3 := Lib.hid (Blk.step hb5 HR3.out); replace HP := Lib.hid (Blk.step hb5 HP.out); replace HQ := Lib.hid (Blk.step hb5 HQ.out); replace HT := Lib.hid (Blk.step hb5 HT.out); replace HS := Lib.hid (Src.step hb5 HS.out); replace HK := Lib.hid (Kp.below hb5 HK.out); have hsz5 := hb5.size; (try simp only [World.size_alloc] at hsz5); clear hb5; have hlS5 := HS.out.lt
  cases c1 : ratB x2 y2 z2 with
  | false =>
    obtain ⟨V, rfl⟩ : ∃ V : World, V = w5 := ⟨_, rfl⟩
    obtain ⟨xT, rfl⟩ : ∃ a : Int, a = x4 := ⟨_, rfl⟩
    obtain ⟨yT, rfl⟩ : ∃ a : Int, a = y4 := ⟨_, rfl⟩
    obtain ⟨zT, rfl⟩ : ∃ a : Int, a = z4 := ⟨_, rfl⟩
    go_upto_region 8 with (fail)
    have hlP := HP.out.lt
    have hlQ := HQ.out.lt
    have hlT := HT.out.lt
    refine wp_region_held_drew (S := fun W => Blk W w4.heap.size 45 #[.int .i64 x2, .int .i64 y2, .int .i64 z2] ∧ Blk W (w4.heap.size + 1) 45 #[.int .i64 x3, .int .i64 y3, .int .i64 z3] ∧ Blk W (w4.heap.size + 1 + 1) 45 #[.int .i64 xT, .int .i64 yT, .int .i64 zT]) (by kernel_rfl) (⟨HP.out.drew, HQ.out.drew, HT.out.drew⟩) (fun hHeld => ?_)
    replace HP := Lib.hid HP.out.drew
    replace HQ := Lib.hid HQ.out.drew
    replace HT := Lib.hid HT.out.drew
    replace HR1 := Lib.hid HR1.out.drew
    replace HR2 := Lib.hid HR2.out.drew
    replace HR3 := Lib.hid HR3.out.drew
    replace HS := Lib.hid HS.out.drew
    replace HK := Lib.hid HK.out.drew
    have hsd : V.drew.heap.size = V.heap.size := rfl
    rw [← hsd] at hlP hlQ hlT
    clear hsd
    generalize V.drew = v at HP HQ HT HR1 HR2 HR3 HS HK hHeld hlP hlQ hlT ⊢
    refine wpAnyH_take (i := 0) (v := .agg #[.int .i64 x2, .int .i64 y2, .int .i64 z2]) rfl (by kernel_rfl) (by kernel_rfl) (by kernel_rfl) (fun _ _ _ h => h) (yieldsIf_load_blk 45 _ (w4.heap.size) (fun _ h => h.1) Try.underlying45 (by kernel_rfl) (by rfl) rfl rfl) hHeld ?_
    simp only [Act.put, List.getElem_toArray, List.getElem_cons_succ, List.getElem_cons_zero, List.setIfInBounds_toArray, List.set_cons_zero, List.set_cons_succ]
    refine wpAnyH_take (i := 1) (v := .agg #[.int .i64 x3, .int .i64 y3, .int .i64 z3]) rfl (by kernel_rfl) (by kernel_rfl) (by kernel_rfl) (fun _ _ _ h => h) (yieldsIf_load_blk 45 _ ((w4.heap.size + 1)) (fun _ h => h.2.1) Try.underlying45 (by kernel_rfl) (by rfl) rfl rfl) hHeld ?_
    simp only [Act.put, List.getElem_toArray, List.getElem_cons_succ, List.getElem_cons_zero, List.setIfInBounds_toArray, List.set_cons_zero, List.set_cons_succ]
    refine wpAnyH_take (i := 2) (v := .agg #[.int .i64 xT, .int .i64 yT, .int .i64 zT]) rfl (by kernel_rfl) (by kernel_rfl) (by kernel_rfl) (fun _ _ _ h => h) (yieldsIf_load_blk 45 _ ((w4.heap.size + 1 + 1)) (fun _ h => h.2.2) Try.underlying45 (by kernel_rfl) (by rfl) rfl rfl) hHeld ?_
    simp only [Act.put, List.getElem_toArray, List.getElem_cons_succ, List.getElem_cons_zero, List.setIfInBounds_toArray, List.set_cons_zero, List.set_cons_succ]
    refine wpAnyH_ready (rs := [3]) (by kernel_rfl) (by simp) ?_
    refine AllReadyH.cons rfl (fun K hK => ?_) AllReadyH.nil
    refine step_store_part 45 _ _ _ 0 (.agg #[.int .i64 x2, .int .i64 y2, .int .i64 z2]) #[.int .i64 x2, .int .i64 y2, .int .i64 z2] (Blk.kp (Kp.ka0 HK.out (by repeat (with_reducible first | exact Kp.refl _ _ | refine Kp.alloc _ ?_ | refine Kp.drew ?_ | refine Kp.drewN _ ?_))) (by first | omega | (simp; omega)) HR1.out) rfl rfl rfl rfl rfl (by rfl) (by kernel_rfl) (by simp [Value.oneCell']) (by simp) ?_; intro wS hBS hkb; simp only [setL, List.setIfInBounds_toArray, List.set_cons_zero, List.set_cons_succ] at hBS; have hka := Kp.ka HK.out hkb (by repeat (with_reducible first | exact Kp.refl _ _ | refine Kp.alloc _ ?_ | refine Kp.drew ?_ | refine Kp.drewN _ ?_)); have hlSo := HS.out.lt; (try (replace HP := Lib.hid (Blk.kp2 hka hkb (by first | omega | (simp; omega)) (by first | omega | (simp; omega)) HP.out))); (try (replace HQ := Lib.hid (Blk.kp2 hka hkb (by first | omega | (simp; omega)) (by first | omega | (simp; omega)) HQ.out))); (try (replace HT := Lib.hid (Blk.kp2 hka hkb (by first | omega | (simp; omega)) (by first | omega | (simp; omega)) HT.out))); (try (replace HR2 := Lib.hid (Blk.kp2 hka hkb (by first | omega | (simp; omega)) (by first | omega | (simp; omega)) HR2.out))); (try (replace HR3 := Lib.hid (Blk.kp2 hka hkb (by first | omega | (simp; omega)) (by first | omega | (simp; omega)) HR3.out))); (try replace HS := Lib.hid (Src.kpg2 HS.out (by repeat (with_reducible first | exact Below.refl _ _ | refine Bel.alloc ?_ _ | refine Below.drew ?_ | refine Bel.drewN ?_ _)) hkb (by first | omega | (simp; omega)))); replace HR1 := Lib.hid hBS; replace HK := Lib.hid (Kp.own hkb (by first | omega | (simp; omega)) (Kp.trans HK.out hka)); have hszS := hkb.size_; have hsyS := hka.size_; (try simp only [World.size_alloc, World.size_drew, World.heap_drewN, World.size_setCell] at hszS hsyS); clear hBS hka hkb hlSo; have hlSS := HS.out.lt
    refine hK.out _ _ (⟨HP.out, HQ.out, HT.out⟩) (fun hHeld => ?_)
    clear hK K
    try simp only [Act.put, List.setIfInBounds_toArray, List.set_cons_zero, List.set_cons_succ]
    refine wpAnyH_ready (rs := [4]) (by kernel_rfl) (by simp) ?_
    refine AllReadyH.cons rfl (fun K hK => ?_) AllReadyH.nil
    refine step_store_part 45 _ _ _ 0 (.agg #[.int .i64 x3, .int .i64 y3, .int .i64 z3]) #[.int .i64 x3, .int .i64 y3, .int .i64 z3] (Blk.kp (Kp.ka0 HK.out (by repeat (with_reducible first | exact Kp.refl _ _ | refine Kp.alloc _ ?_ | refine Kp.drew ?_ | refine Kp.drewN _ ?_))) (by first | omega | (simp; omega)) HR2.out) rfl rfl rfl rfl rfl (by rfl) (by kernel_rfl) (by simp [Value.oneCell']) (by simp) ?_; intro wS hBS hkb; simp only [setL, List.setIfInBounds_toArray, List.set_cons_zero, List.set_cons_succ] at hBS; have hka := Kp.ka HK.out hkb (by repeat (with_reducible first | exact Kp.refl _ _ | refine Kp.alloc _ ?_ | refine Kp.drew ?_ | refine Kp.drewN _ ?_)); have hlSo := HS.out.lt; (try (replace HP := Lib.hid (Blk.kp2 hka hkb (by first | omega | (simp; omega)) (by first | omega | (simp; omega)) HP.out))); (try (replace HQ := Lib.hid (Blk.kp2 hka hkb (by first | omega | (simp; omega)) (by first | omega | (simp; omega)) HQ.out))); (try (replace HT := Lib.hid (Blk.kp2 hka hkb (by first | omega | (simp; omega)) (by first | omega | (simp; omega)) HT.out))); (try (replace HR1 := Lib.hid (Blk.kp2 hka hkb (by first | omega | (simp; omega)) (by first | omega | (simp; omega)) HR1.out))); (try (replace HR3 := Lib.hid (Blk.kp2 hka hkb (by first | omega | (simp; omega)) (by first | omega | (simp; omega)) HR3.out))); (try replace HS := Lib.hid (Src.kpg2 HS.out (by repeat (with_reducible first | exact Below.refl _ _ | refine Bel.alloc ?_ _ | refine Below.drew ?_ | refine Bel.drewN ?_ _)) hkb (by first | omega | (simp; omega)))); replace HR2 := Lib.hid hBS; replace HK := Lib.hid (Kp.own hkb (by first | omega | (simp; omega)) (Kp.trans HK.out hka)); have hszS := hkb.size_; have hsyS := hka.size_; (try simp only [World.size_alloc, World.size_drew, World.heap_drewN, World.size_setCell] at hszS hsyS); clear hBS hka hkb hlSo; have hlSS := HS.out.lt
    refine hK.out _ _ (⟨HP.out, HQ.out, HT.out⟩) (fun hHeld => ?_)
    clear hK K
    try simp only [Act.put, List.setIfInBounds_toArray, List.set_cons_zero, List.set_cons_succ]
    refine wpAnyH_ready (rs := [5]) (by kernel_rfl) (by simp) ?_
    refine AllReadyH.cons rfl (fun K hK => ?_) AllReadyH.nil
    refine step_store_part 45 _ _ _ 0 (.agg #[.int .i64 xT, .int .i64 yT, .int .i64 zT]) #[.int .i64 xT, .int .i64 yT, .int .i64 zT] (Blk.kp (Kp.ka0 HK.out (by repeat (with_reducible first | exact Kp.refl _ _ | refine Kp.alloc _ ?_ | refine Kp.drew ?_ | refine Kp.drewN _ ?_))) (by first | omega | (simp; omega)) HR3.out) rfl rfl rfl rfl rfl (by rfl) (by kernel_rfl) (by simp [Value.oneCell']) (by simp) ?_; intro wS hBS hkb; simp only [setL, List.setIfInBounds_toArray, List.set_cons_zero, List.set_cons_succ] at hBS; have hka := Kp.ka HK.out hkb (by repeat (with_reducible first | exact Kp.refl _ _ | refine Kp.alloc _ ?_ | refine Kp.drew ?_ | refine Kp.drewN _ ?_)); have hlSo := HS.out.lt; (try (replace HP := Lib.hid (Blk.kp2 hka hkb (by first | omega | (simp; omega)) (by first | omega | (simp; omega)) HP.out))); (try (replace HQ := Lib.hid (Blk.kp2 hka hkb (by first | omega | (simp; omega)) (by first | omega | (simp; omega)) HQ.out))); (try (replace HT := Lib.hid (Blk.kp2 hka hkb (by first | omega | (simp; omega)) (by first | omega | (simp; omega)) HT.out))); (try (replace HR1 := Lib.hid (Blk.kp2 hka hkb (by first | omega | (simp; omega)) (by first | omega | (simp; omega)) HR1.out))); (try (replace HR2 := Lib.hid (Blk.kp2 hka hkb (by first | omega | (simp; omega)) (by first | omega | (simp; omega)) HR2.out))); (try replace HS := Lib.hid (Src.kpg2 HS.out (by repeat (with_reducible first | exact Below.refl _ _ | refine Bel.alloc ?_ _ | refine Below.drew ?_ | refine Bel.drewN ?_ _)) hkb (by first | omega | (simp; omega)))); replace HR3 := Lib.hid hBS; replace HK := Lib.hid (Kp.own hkb (by first | omega | (simp; omega)) (Kp.trans HK.out hka)); have hszS := hkb.size_; have hsyS := hka.size_; (try simp only [World.size_alloc, World.size_drew, World.heap_drewN, World.size_setCell] at hszS hsyS); clear hBS hka hkb hlSo; have hlSS := HS.out.lt
    refine hK.out _ _ (⟨HP.out, HQ.out, HT.out⟩) (fun hHeld => ?_)
    clear hK K
    try simp only [Act.put, List.setIfInBounds_toArray, List.set_cons_zero, List.set_cons_succ]
    refine wpAnyH_done (by kernel_rfl) ?_ _
    go_wp2
    exact bodyPost_ret (results_3 rfl (resF_cell HR1.out Try.underlying45 (by kernel_rfl) rfl) (resF_cell HR2.out Try.underlying45 (by kernel_rfl) rfl) (resF_cell HR3.out Try.underlying45 (by kernel_rfl) rfl)) rfl ⟨_, _, _, _, _, _, _, _, _, rfl, Kp.toBel HK.out (by omega)⟩
  | true =>
    go_wp2_with (first | (refine wpList_load_blkG 45 _ _ (Blk.kp (Kp.ka0 HK.out (by repeat (with_reducible first | exact Kp.refl _ _ | refine Kp.alloc _ ?_ | refine Kp.drew ?_ | refine Kp.drewN _ ?_))) (by first | omega | (simp; omega)) HQ.out) Try.underlying45 (by kernel_rfl) rfl rfl (by rfl) ?_))
    go_at_call 92; refine (l25Is_c _ _ _ _).mono ?_; rintro e w6 ⟨rfl, hb6⟩; replace HR1 := Lib.hid (Blk.step hb6 HR1.out); replace HR2 := Lib.hid (Blk.step hb6 HR2.out); replace HR3 := Lib.hid (Blk.step hb6 HR3.out); replace HP := Lib.hid (Blk.step hb6 HP.out); replace HQ := Lib.hid (Blk.step hb6 HQ.out); replace HT := Lib.hid (Blk.step hb6 HT.out); replace HS := Lib.hid (Src.step hb6 HS.out); replace HK := Lib.hid (Kp.below hb6 HK.out); have hsz6 := hb6.size; (try simp only [World.size_alloc] at hsz6); clear hb6; have hlS6 := HS.out.lt
    cases c2 : ratB x3 y3 z3 with
    | false =>
      obtain ⟨V, rfl⟩ : ∃ V : World, V = w6 := ⟨_, rfl⟩
      obtain ⟨xT, rfl⟩ : ∃ a : Int, a = x4 := ⟨_, rfl⟩
      obtain ⟨yT, rfl⟩ : ∃ a : Int, a = y4 := ⟨_, rfl⟩
      obtain ⟨zT, rfl⟩ : ∃ a : Int, a = z4 := ⟨_, rfl⟩
      go_upto_region 8 with (fail)
      have hlP := HP.out.lt
      have hlQ := HQ.out.lt
      have hlT := HT.out.lt
      refine wp_region_held_drew (S := fun W => Blk W w4.heap.size 45 #[.int .i64 x2, .int .i64 y2, .int .i64 z2] ∧ Blk W (w4.heap.size + 1) 45 #[.int .i64 x3, .int .i64 y3, .int .i64 z3] ∧ Blk W (w4.heap.size + 1 + 1) 45 #[.int .i64 xT, .int .i64 yT, .int .i64 zT]) (by kernel_rfl) (⟨HP.out.drew, HQ.out.drew, HT.out.drew⟩) (fun hHeld => ?_)
      replace HP := Lib.hid HP.out.drew
      replace HQ := Lib.hid HQ.out.drew
      replace HT := Lib.hid HT.out.drew
      replace HR1 := Lib.hid HR1.out.drew
      replace HR2 := Lib.hid HR2.out.drew
      replace HR3 := Lib.hid HR3.out.drew
      replace HS := Lib.hid HS.out.drew
      replace HK := Lib.hid HK.out.drew
      have hsd : V.drew.heap.size = V.heap.size := rfl
      rw [← hsd] at hlP hlQ hlT
      clear hsd
      generalize V.drew = v at HP HQ HT HR1 HR2 HR3 HS HK hHeld hlP hlQ hlT ⊢
      refine wpAnyH_take (i := 0) (v := .agg #[.int .i64 x2, .int .i64 y2, .int .i64 z2]) rfl (by kernel_rfl) (by kernel_rfl) (by kernel_rfl) (fun _ _ _ h => h) (yieldsIf_load_blk 45 _ (w4.heap.size) (fun _ h => h.1) Try.underlying45 (by kernel_rfl) (by rfl) rfl rfl) hHeld ?_
      simp only [Act.put, List.getElem_toArray, List.getElem_cons_succ, List.getElem_cons_zero, List.setIfInBounds_toArray, List.set_cons_zero, List.set_cons_succ]
      refine wpAnyH_take (i := 1) (v := .agg #[.int .i64 x3, .int .i64 y3, .int .i64 z3]) rfl (by kernel_rfl) (by kernel_rfl) (by kernel_rfl) (fun _ _ _ h => h) (yieldsIf_load_blk 45 _ ((w4.heap.size + 1)) (fun _ h => h.2.1) Try.underlying45 (by kernel_rfl) (by rfl) rfl rfl) hHeld ?_
      simp only [Act.put, List.getElem_toArray, List.getElem_cons_succ, List.getElem_cons_zero, List.setIfInBounds_toArray, List.set_cons_zero, List.set_cons_succ]
      refine wpAnyH_take (i := 2) (v := .agg #[.int .i64 xT, .int .i64 yT, .int .i64 zT]) rfl (by kernel_rfl) (by kernel_rfl) (by kernel_rfl) (fun _ _ _ h => h) (yieldsIf_load_blk 45 _ ((w4.heap.size + 1 + 1)) (fun _ h => h.2.2) Try.underlying45 (by kernel_rfl) (by rfl) rfl rfl) hHeld ?_
      simp only [Act.put, List.getElem_toArray, List.getElem_cons_succ, List.getElem_cons_zero, List.setIfInBounds_toArray, List.set_cons_zero, List.set_cons_succ]
      refine wpAnyH_ready (rs := [3]) (by kernel_rfl) (by simp) ?_
      refine AllReadyH.cons rfl (fun K hK => ?_) AllReadyH.nil
      refine step_store_part 45 _ _ _ 0 (.agg #[.int .i64 x2, .int .i64 y2, .int .i64 z2]) #[.int .i64 x2, .int .i64 y2, .int .i64 z2] (Blk.kp (Kp.ka0 HK.out (by repeat (with_reducible first | exact Kp.refl _ _ | refine Kp.alloc _ ?_ | refine Kp.drew ?_ | refine Kp.drewN _ ?_))) (by first | omega | (simp; omega)) HR1.out) rfl rfl rfl rfl rfl (by rfl) (by kernel_rfl) (by simp [Value.oneCell']) (by simp) ?_; intro wS hBS hkb; simp only [setL, List.setIfInBounds_toArray, List.set_cons_zero, List.set_cons_succ] at hBS; have hka := Kp.ka HK.out hkb (by repeat (with_reducible first | exact Kp.refl _ _ | refine Kp.alloc _ ?_ | refine Kp.drew ?_ | refine Kp.drewN _ ?_)); have hlSo := HS.out.lt; (try (replace HP := Lib.hid (Blk.kp2 hka hkb (by first | omega | (simp; omega)) (by first | omega | (simp; omega)) HP.out))); (try (replace HQ := Lib.hid (Blk.kp2 hka hkb (by first | omega | (simp; omega)) (by first | omega | (simp; omega)) HQ.out))); (try (replace HT := Lib.hid (Blk.kp2 hka hkb (by first | omega | (simp; omega)) (by first | omega | (simp; omega)) HT.out))); (try (replace HR2 := Lib.hid (Blk.kp2 hka hkb (by first | omega | (simp; omega)) (by first | omega | (simp; omega)) HR2.out))); (try (replace HR3 := Lib.hid (Blk.kp2 hka hkb (by first | omega | (simp; omega)) (by first | omega | (simp; omega)) HR3.out))); (try replace HS := Lib.hid (Src.kpg2 HS.out (by repeat (with_reducible first | exact Below.refl _ _ | refine Bel.alloc ?_ _ | refine Below.drew ?_ | refine Bel.drewN ?_ _)) hkb (by first | omega | (simp; omega)))); replace HR1 := Lib.hid hBS; replace HK := Lib.hid (Kp.own hkb (by first | omega | (simp; omega)) (Kp.trans HK.out hka)); have hszS := hkb.size_; have hsyS := hka.size_; (try simp only [World.size_alloc, World.size_drew, World.heap_drewN, World.size_setCell] at hszS hsyS); clear hBS hka hkb hlSo; have hlSS := HS.out.lt
      refine hK.out _ _ (⟨HP.out, HQ.out, HT.out⟩) (fun hHeld => ?_)
      clear hK K
      try simp only [Act.put, List.setIfInBounds_toArray, List.set_cons_zero, List.set_cons_succ]
      refine wpAnyH_ready (rs := [4]) (by kernel_rfl) (by simp) ?_
      refine AllReadyH.cons rfl (fun K hK => ?_) AllReadyH.nil
      refine step_store_part 45 _ _ _ 0 (.agg #[.int .i64 x3, .int .i64 y3, .int .i64 z3]) #[.int .i64 x3, .int .i64 y3, .int .i64 z3] (Blk.kp (Kp.ka0 HK.out (by repeat (with_reducible first | exact Kp.refl _ _ | refine Kp.alloc _ ?_ | refine Kp.drew ?_ | refine Kp.drewN _ ?_))) (by first | omega | (simp; omega)) HR2.out) rfl rfl rfl rfl rfl (by rfl) (by kernel_rfl) (by simp [Value.oneCell']) (by simp) ?_; intro wS hBS hkb; simp only [setL, List.setIfInBounds_toArray, List.set_cons_zero, List.set_cons_succ] at hBS; have hka := Kp.ka HK.out hkb (by repeat (with_reducible first | exact Kp.refl _ _ | refine Kp.alloc _ ?_ | refine Kp.drew ?_ | refine Kp.drewN _ ?_)); have hlSo := HS.out.lt; (try (replace HP := Lib.hid (Blk.kp2 hka hkb (by first | omega | (simp; omega)) (by first | omega | (simp; omega)) HP.out))); (try (replace HQ := Lib.hid (Blk.kp2 hka hkb (by first | omega | (simp; omega)) (by first | omega | (simp; omega)) HQ.out))); (try (replace HT := Lib.hid (Blk.kp2 hka hkb (by first | omega | (simp; omega)) (by first | omega | (simp; omega)) HT.out))); (try (replace HR1 := Lib.hid (Blk.kp2 hka hkb (by first | omega | (simp; omega)) (by first | omega | (simp; omega)) HR1.out))); (try (replace HR3 := Lib.hid (Blk.kp2 hka hkb (by first | omega | (simp; omega)) (by first | omega | (simp; omega)) HR3.out))); (try replace HS := Lib.hid (Src.kpg2 HS.out (by repeat (with_reducible first | exact Below.refl _ _ | refine Bel.alloc ?_ _ | refine Below.drew ?_ | refine Bel.drewN ?_ _)) hkb (by first | omega | (simp; omega)))); replace HR2 := Lib.hid hBS; replace HK := Lib.hid (Kp.own hkb (by first | omega | (simp; omega)) (Kp.trans HK.out hka)); have hszS := hkb.size_; have hsyS := hka.size_; (try simp only [World.size_alloc, World.size_drew, World.heap_drewN, World.size_setCell] at hszS hsyS); clear hBS hka hkb hlSo; have hlSS := HS.out.lt
      refine hK.out _ _ (⟨HP.out, HQ.out, HT.out⟩) (fun hHeld => ?_)
      clear hK K
      try simp only [Act.put, List.setIfInBounds_toArray, List.set_cons_zero, List.set_cons_succ]
      refine wpAnyH_ready (rs := [5]) (by kernel_rfl) (by simp) ?_
      refine AllReadyH.cons rfl (fun K hK => ?_) AllReadyH.nil
      refine step_store_part 45 _ _ _ 0 (.agg #[.int .i64 xT, .int .i64 yT, .int .i64 zT]) #[.int .i64 xT, .int .i64 yT, .int .i64 zT] (Blk.kp (Kp.ka0 HK.out (by repeat (with_reducible first | exact Kp.refl _ _ | refine Kp.alloc _ ?_ | refine Kp.drew ?_ | refine Kp.drewN _ ?_))) (by first | omega | (simp; omega)) HR3.out) rfl rfl rfl rfl rfl (by rfl) (by kernel_rfl) (by simp [Value.oneCell']) (by simp) ?_; intro wS hBS hkb; simp only [setL, List.setIfInBounds_toArray, List.set_cons_zero, List.set_cons_succ] at hBS; have hka := Kp.ka HK.out hkb (by repeat (with_reducible first | exact Kp.refl _ _ | refine Kp.alloc _ ?_ | refine Kp.drew ?_ | refine Kp.drewN _ ?_)); have hlSo := HS.out.lt; (try (replace HP := Lib.hid (Blk.kp2 hka hkb (by first | omega | (simp; omega)) (by first | omega | (simp; omega)) HP.out))); (try (replace HQ := Lib.hid (Blk.kp2 hka hkb (by first | omega | (simp; omega)) (by first | omega | (simp; omega)) HQ.out))); (try (replace HT := Lib.hid (Blk.kp2 hka hkb (by first | omega | (simp; omega)) (by first | omega | (simp; omega)) HT.out))); (try (replace HR1 := Lib.hid (Blk.kp2 hka hkb (by first | omega | (simp; omega)) (by first | omega | (simp; omega)) HR1.out))); (try (replace HR2 := Lib.hid (Blk.kp2 hka hkb (by first | omega | (simp; omega)) (by first | omega | (simp; omega)) HR2.out))); (try replace HS := Lib.hid (Src.kpg2 HS.out (by repeat (with_reducible first | exact Below.refl _ _ | refine Bel.alloc ?_ _ | refine Below.drew ?_ | refine Bel.drewN ?_ _)) hkb (by first | omega | (simp; omega)))); replace HR3 := Lib.hid hBS; replace HK := Lib.hid (Kp.own hkb (by first | omega | (simp; omega)) (Kp.trans HK.out hka)); have hszS := hkb.size_; have hsyS := hka.size_; (try simp only [World.size_alloc, World.size_drew, World.heap_drewN, World.size_setCell] at hszS hsyS); clear hBS hka hkb hlSo; have hlSS := HS.out.lt
      refine hK.out _ _ (⟨HP.out, HQ.out, HT.out⟩) (fun hHeld => ?_)
      clear hK K
      try simp only [Act.put, List.setIfInBounds_toArray, List.set_cons_zero, List.set_cons_succ]
      refine wpAnyH_done (by kernel_rfl) ?_ _
      go_wp2
      exact bodyPost_ret (results_3 rfl (resF_cell HR1.out Try.underlying45 (by kernel_rfl) rfl) (resF_cell HR2.out Try.underlying45 (by kernel_rfl) rfl) (resF_cell HR3.out Try.underlying45 (by kernel_rfl) rfl)) rfl ⟨_, _, _, _, _, _, _, _, _, rfl, Kp.toBel HK.out (by omega)⟩
    | true =>
      go_wp2_with (first | (refine wpList_load_blkG 45 _ _ (Blk.kp (Kp.ka0 HK.out (by repeat (with_reducible first | exact Kp.refl _ _ | refine Kp.alloc _ ?_ | refine Kp.drew ?_ | refine Kp.drewN _ ?_))) (by first | omega | (simp; omega)) HP.out) Try.underlying45 (by kernel_rfl) rfl rfl (by rfl) ?_))
      go_at_call 93; refine (l25Small6_c _ _ _ _).mono ?_; rintro e w7 ⟨rfl, hb7⟩; replace HR1 := Lib.hid (Blk.step hb7 HR1.out); replace HR2 := Lib.hid (Blk.step hb7 HR2.out); replace HR3 := Lib.hid (Blk.step hb7 HR3.out); replace HP := Lib.hid (Blk.step hb7 HP.out); replace HQ := Lib.hid (Blk.step hb7 HQ.out); replace HT := Lib.hid (Blk.step hb7 HT.out); replace HS := Lib.hid (Src.step hb7 HS.out); replace HK := Lib.hid (Kp.below hb7 HK.out); have hsz7 := hb7.size; (try simp only [World.size_alloc] at hsz7); clear hb7; have hlS7 := HS.out.lt
      cases c3 : smlB x2 y2 z2 with
      | false =>
        obtain ⟨V, rfl⟩ : ∃ V : World, V = w7 := ⟨_, rfl⟩
        obtain ⟨xT, rfl⟩ : ∃ a : Int, a = x4 := ⟨_, rfl⟩
        obtain ⟨yT, rfl⟩ : ∃ a : Int, a = y4 := ⟨_, rfl⟩
        obtain ⟨zT, rfl⟩ : ∃ a : Int, a = z4 := ⟨_, rfl⟩
        go_upto_region 8 with (fail)
        have hlP := HP.out.lt
        have hlQ := HQ.out.lt
        have hlT := HT.out.lt
        refine wp_region_held_drew (S := fun W => Blk W w4.heap.size 45 #[.int .i64 x2, .int .i64 y2, .int .i64 z2] ∧ Blk W (w4.heap.size + 1) 45 #[.int .i64 x3, .int .i64 y3, .int .i64 z3] ∧ Blk W (w4.heap.size + 1 + 1) 45 #[.int .i64 xT, .int .i64 yT, .int .i64 zT]) (by kernel_rfl) (⟨HP.out.drew, HQ.out.drew, HT.out.drew⟩) (fun hHeld => ?_)
        replace HP := Lib.hid HP.out.drew
        replace HQ := Lib.hid HQ.out.drew
        replace HT := Lib.hid HT.out.drew
        replace HR1 := Lib.hid HR1.out.drew
        replace HR2 := Lib.hid HR2.out.drew
        replace HR3 := Lib.hid HR3.out.drew
        replace HS := Lib.hid HS.out.drew
        replace HK := Lib.hid HK.out.drew
        have hsd : V.drew.heap.size = V.heap.size := rfl
        rw [← hsd] at hlP hlQ hlT
        clear hsd
        generalize V.drew = v at HP HQ HT HR1 HR2 HR3 HS HK hHeld hlP hlQ hlT ⊢
        refine wpAnyH_take (i := 0) (v := .agg #[.int .i64 x2, .int .i64 y2, .int .i64 z2]) rfl (by kernel_rfl) (by kernel_rfl) (by kernel_rfl) (fun _ _ _ h => h) (yieldsIf_load_blk 45 _ (w4.heap.size) (fun _ h => h.1) Try.underlying45 (by kernel_rfl) (by rfl) rfl rfl) hHeld ?_
        simp only [Act.put, List.getElem_toArray, List.getElem_cons_succ, List.getElem_cons_zero, List.setIfInBounds_toArray, List.set_cons_zero, List.set_cons_succ]
        refine wpAnyH_take (i := 1) (v := .agg #[.int .i64 x3, .int .i64 y3, .int .i64 z3]) rfl (by kernel_rfl) (by kernel_rfl) (by kernel_rfl) (fun _ _ _ h => h) (yieldsIf_load_blk 45 _ ((w4.heap.size + 1)) (fun _ h => h.2.1) Try.underlying45 (by kernel_rfl) (by rfl) rfl rfl) hHeld ?_
        simp only [Act.put, List.getElem_toArray, List.getElem_cons_succ, List.getElem_cons_zero, List.setIfInBounds_toArray, List.set_cons_zero, List.set_cons_succ]
        refine wpAnyH_take (i := 2) (v := .agg #[.int .i64 xT, .int .i64 yT, .int .i64 zT]) rfl (by kernel_rfl) (by kernel_rfl) (by kernel_rfl) (fun _ _ _ h => h) (yieldsIf_load_blk 45 _ ((w4.heap.size + 1 + 1)) (fun _ h => h.2.2) Try.underlying45 (by kernel_rfl) (by rfl) rfl rfl) hHeld ?_
        simp only [Act.put, List.getElem_toArray, List.getElem_cons_succ, List.getElem_cons_zero, List.setIfInBounds_toArray, List.set_cons_zero, List.set_cons_succ]
        refine wpAnyH_ready (rs := [3]) (by kernel_rfl) (by simp) ?_
        refine AllReadyH.cons rfl (fun K hK => ?_) AllReadyH.nil
        refine step_store_part 45 _ _ _ 0 (.agg #[.int .i64 x2, .int .i64 y2, .int .i64 z2]) #[.int .i64 x2, .int .i64 y2, .int .i64 z2] (Blk.kp (Kp.ka0 HK.out (by repeat (with_reducible first | exact Kp.refl _ _ | refine Kp.alloc _ ?_ | refine Kp.drew ?_ | refine Kp.drewN _ ?_))) (by first | omega | (simp; omega)) HR1.out) rfl rfl rfl rfl rfl (by rfl) (by kernel_rfl) (by simp [Value.oneCell']) (by simp) ?_; intro wS hBS hkb; simp only [setL, List.setIfInBounds_toArray, List.set_cons_zero, List.set_cons_succ] at hBS; have hka := Kp.ka HK.out hkb (by repeat (with_reducible first | exact Kp.refl _ _ | refine Kp.alloc _ ?_ | refine Kp.drew ?_ | refine Kp.drewN _ ?_)); have hlSo := HS.out.lt; (try (replace HP := Lib.hid (Blk.kp2 hka hkb (by first | omega | (simp; omega)) (by first | omega | (simp; omega)) HP.out))); (try (replace HQ := Lib.hid (Blk.kp2 hka hkb (by first | omega | (simp; omega)) (by first | omega | (simp; omega)) HQ.out))); (try (replace HT := Lib.hid (Blk.kp2 hka hkb (by first | omega | (simp; omega)) (by first | omega | (simp; omega)) HT.out))); (try (replace HR2 := Lib.hid (Blk.kp2 hka hkb (by first | omega | (simp; omega)) (by first | omega | (simp; omega)) HR2.out))); (try (replace HR3 := Lib.hid (Blk.kp2 hka hkb (by first | omega | (simp; omega)) (by first | omega | (simp; omega)) HR3.out))); (try replace HS := Lib.hid (Src.kpg2 HS.out (by repeat (with_reducible first | exact Below.refl _ _ | refine Bel.alloc ?_ _ | refine Below.drew ?_ | refine Bel.drewN ?_ _)) hkb (by first | omega | (simp; omega)))); replace HR1 := Lib.hid hBS; replace HK := Lib.hid (Kp.own hkb (by first | omega | (simp; omega)) (Kp.trans HK.out hka)); have hszS := hkb.size_; have hsyS := hka.size_; (try simp only [World.size_alloc, World.size_drew, World.heap_drewN, World.size_setCell] at hszS hsyS); clear hBS hka hkb hlSo; have hlSS := HS.out.lt
        refine hK.out _ _ (⟨HP.out, HQ.out, HT.out⟩) (fun hHeld => ?_)
        clear hK K
        try simp only [Act.put, List.setIfInBounds_toArray, List.set_cons_zero, List.set_cons_succ]
        refine wpAnyH_ready (rs := [4]) (by kernel_rfl) (by simp) ?_
        refine AllReadyH.cons rfl (fun K hK => ?_) AllReadyH.nil
        refine step_store_part 45 _ _ _ 0 (.agg #[.int .i64 x3, .int .i64 y3, .int .i64 z3]) #[.int .i64 x3, .int .i64 y3, .int .i64 z3] (Blk.kp (Kp.ka0 HK.out (by repeat (with_reducible first | exact Kp.refl _ _ | refine Kp.alloc _ ?_ | refine Kp.drew ?_ | refine Kp.drewN _ ?_))) (by first | omega | (simp; omega)) HR2.out) rfl rfl rfl rfl rfl (by rfl) (by kernel_rfl) (by simp [Value.oneCell']) (by simp) ?_; intro wS hBS hkb; simp only [setL, List.setIfInBounds_toArray, List.set_cons_zero, List.set_cons_succ] at hBS; have hka := Kp.ka HK.out hkb (by repeat (with_reducible first | exact Kp.refl _ _ | refine Kp.alloc _ ?_ | refine Kp.drew ?_ | refine Kp.drewN _ ?_)); have hlSo := HS.out.lt; (try (replace HP := Lib.hid (Blk.kp2 hka hkb (by first | omega | (simp; omega)) (by first | omega | (simp; omega)) HP.out))); (try (replace HQ := Lib.hid (Blk.kp2 hka hkb (by first | omega | (simp; omega)) (by first | omega | (simp; omega)) HQ.out))); (try (replace HT := Lib.hid (Blk.kp2 hka hkb (by first | omega | (simp; omega)) (by first | omega | (simp; omega)) HT.out))); (try (replace HR1 := Lib.hid (Blk.kp2 hka hkb (by first | omega | (simp; omega)) (by first | omega | (simp; omega)) HR1.out))); (try (replace HR3 := Lib.hid (Blk.kp2 hka hkb (by first | omega | (simp; omega)) (by first | omega | (simp; omega)) HR3.out))); (try replace HS := Lib.hid (Src.kpg2 HS.out (by repeat (with_reducible first | exact Below.refl _ _ | refine Bel.alloc ?_ _ | refine Below.drew ?_ | refine Bel.drewN ?_ _)) hkb (by first | omega | (simp; omega)))); replace HR2 := Lib.hid hBS; replace HK := Lib.hid (Kp.own hkb (by first | omega | (simp; omega)) (Kp.trans HK.out hka)); have hszS := hkb.size_; have hsyS := hka.size_; (try simp only [World.size_alloc, World.size_drew, World.heap_drewN, World.size_setCell] at hszS hsyS); clear hBS hka hkb hlSo; have hlSS := HS.out.lt
        refine hK.out _ _ (⟨HP.out, HQ.out, HT.out⟩) (fun hHeld => ?_)
        clear hK K
        try simp only [Act.put, List.setIfInBounds_toArray, List.set_cons_zero, List.set_cons_succ]
        refine wpAnyH_ready (rs := [5]) (by kernel_rfl) (by simp) ?_
        refine AllReadyH.cons rfl (fun K hK => ?_) AllReadyH.nil
        refine step_store_part 45 _ _ _ 0 (.agg #[.int .i64 xT, .int .i64 yT, .int .i64 zT]) #[.int .i64 xT, .int .i64 yT, .int .i64 zT] (Blk.kp (Kp.ka0 HK.out (by repeat (with_reducible first | exact Kp.refl _ _ | refine Kp.alloc _ ?_ | refine Kp.drew ?_ | refine Kp.drewN _ ?_))) (by first | omega | (simp; omega)) HR3.out) rfl rfl rfl rfl rfl (by rfl) (by kernel_rfl) (by simp [Value.oneCell']) (by simp) ?_; intro wS hBS hkb; simp only [setL, List.setIfInBounds_toArray, List.set_cons_zero, List.set_cons_succ] at hBS; have hka := Kp.ka HK.out hkb (by repeat (with_reducible first | exact Kp.refl _ _ | refine Kp.alloc _ ?_ | refine Kp.drew ?_ | refine Kp.drewN _ ?_)); have hlSo := HS.out.lt; (try (replace HP := Lib.hid (Blk.kp2 hka hkb (by first | omega | (simp; omega)) (by first | omega | (simp; omega)) HP.out))); (try (replace HQ := Lib.hid (Blk.kp2 hka hkb (by first | omega | (simp; omega)) (by first | omega | (simp; omega)) HQ.out))); (try (replace HT := Lib.hid (Blk.kp2 hka hkb (by first | omega | (simp; omega)) (by first | omega | (simp; omega)) HT.out))); (try (replace HR1 := Lib.hid (Blk.kp2 hka hkb (by first | omega | (simp; omega)) (by first | omega | (simp; omega)) HR1.out))); (try (replace HR2 := Lib.hid (Blk.kp2 hka hkb (by first | omega | (simp; omega)) (by first | omega | (simp; omega)) HR2.out))); (try replace HS := Lib.hid (Src.kpg2 HS.out (by repeat (with_reducible first | exact Below.refl _ _ | refine Bel.alloc ?_ _ | refine Below.drew ?_ | refine Bel.drewN ?_ _)) hkb (by first | omega | (simp; omega)))); replace HR3 := Lib.hid hBS; replace HK := Lib.hid (Kp.own hkb (by first | omega | (simp; omega)) (Kp.trans HK.out hka)); have hszS := hkb.size_; have hsyS := hka.size_; (try simp only [World.size_alloc, World.size_drew, World.heap_drewN, World.size_setCell] at hszS hsyS); clear hBS hka hkb hlSo; have hlSS := HS.out.lt
        refine hK.out _ _ (⟨HP.out, HQ.out, HT.out⟩) (fun hHeld => ?_)
        clear hK K
        try simp only [Act.put, List.setIfInBounds_toArray, List.set_cons_zero, List.set_cons_succ]
        refine wpAnyH_done (by kernel_rfl) ?_ _
        go_wp2
        exact bodyPost_ret (results_3 rfl (resF_cell HR1.out Try.underlying45 (by kernel_rfl) rfl) (resF_cell HR2.out Try.underlying45 (by kernel_rfl) rfl) (resF_cell HR3.out Try.underlying45 (by kernel_rfl) rfl)) rfl ⟨_, _, _, _, _, _, _, _, _, rfl, Kp.toBel HK.out (by omega)⟩
      | true =>
        go_wp2_with (first | (refine wpList_load_blkG 45 _ _ (Blk.kp (Kp.ka0 HK.out (by repeat (with_reducible first | exact Kp.refl _ _ | refine Kp.alloc _ ?_ | refine Kp.drew ?_ | refine Kp.drewN _ ?_))) (by first | omega | (simp; omega)) HQ.out) Try.underlying45 (by kernel_rfl) rfl rfl (by rfl) ?_))
        go_at_call 93; refine (l25Small6_c _ _ _ _).mono ?_; rintro e w8 ⟨rfl, hb8⟩; replace HR1 := Lib.hid (Blk.step hb8 HR1.out); replace HR2 := Lib.hid (Blk.step hb8 HR2.out); replace HR3 := Lib.hid (Blk.step hb8 HR3.out); replace HP := Lib.hid (Blk.step hb8 HP.out); replace HQ := Lib.hid (Blk.step hb8 HQ.out); replace HT := Lib.hid (Blk.step hb8 HT.out); replace HS := Lib.hid (Src.step hb8 HS.out); replace HK := Lib.hid (Kp.below hb8 HK.out); have hsz8 := hb8.size; (try simp only [World.size_alloc] at hsz8); clear hb8; have hlS8 := HS.out.lt
        cases c4 : smlB x3 y3 z3 with
        | false =>
          obtain ⟨V, rfl⟩ : ∃ V : World, V = w8 := ⟨_, rfl⟩
          obtain ⟨xT, rfl⟩ : ∃ a : Int, a = x4 := ⟨_, rfl⟩
          obtain ⟨yT, rfl⟩ : ∃ a : Int, a = y4 := ⟨_, rfl⟩
          obtain ⟨zT, rfl⟩ : ∃ a : Int, a = z4 := ⟨_, rfl⟩
          go_upto_region 8 with (fail)
          have hlP := HP.out.lt
          have hlQ := HQ.out.lt
          have hlT := HT.out.lt
          refine wp_region_held_drew (S := fun W => Blk W w4.heap.size 45 #[.int .i64 x2, .int .i64 y2, .int .i64 z2] ∧ Blk W (w4.heap.size + 1) 45 #[.int .i64 x3, .int .i64 y3, .int .i64 z3] ∧ Blk W (w4.heap.size + 1 + 1) 45 #[.int .i64 xT, .int .i64 yT, .int .i64 zT]) (by kernel_rfl) (⟨HP.out.drew, HQ.out.drew, HT.out.drew⟩) (fun hHeld => ?_)
          replace HP := Lib.hid HP.out.drew
          replace HQ := Lib.hid HQ.out.drew
          replace HT := Lib.hid HT.out.drew
          replace HR1 := Lib.hid HR1.out.drew
          replace HR2 := Lib.hid HR2.out.drew
          replace HR3 := Lib.hid HR3.out.drew
          replace HS := Lib.hid HS.out.drew
          replace HK := Lib.hid HK.out.drew
          have hsd : V.drew.heap.size = V.heap.size := rfl
          rw [← hsd] at hlP hlQ hlT
          clear hsd
          generalize V.drew = v at HP HQ HT HR1 HR2 HR3 HS HK hHeld hlP hlQ hlT ⊢
          refine wpAnyH_take (i := 0) (v := .agg #[.int .i64 x2, .int .i64 y2, .int .i64 z2]) rfl (by kernel_rfl) (by kernel_rfl) (by kernel_rfl) (fun _ _ _ h => h) (yieldsIf_load_blk 45 _ (w4.heap.size) (fun _ h => h.1) Try.underlying45 (by kernel_rfl) (by rfl) rfl rfl) hHeld ?_
          simp only [Act.put, List.getElem_toArray, List.getElem_cons_succ, List.getElem_cons_zero, List.setIfInBounds_toArray, List.set_cons_zero, List.set_cons_succ]
          refine wpAnyH_take (i := 1) (v := .agg #[.int .i64 x3, .int .i64 y3, .int .i64 z3]) rfl (by kernel_rfl) (by kernel_rfl) (by kernel_rfl) (fun _ _ _ h => h) (yieldsIf_load_blk 45 _ ((w4.heap.size + 1)) (fun _ h => h.2.1) Try.underlying45 (by kernel_rfl) (by rfl) rfl rfl) hHeld ?_
          simp only [Act.put, List.getElem_toArray, List.getElem_cons_succ, List.getElem_cons_zero, List.setIfInBounds_toArray, List.set_cons_zero, List.set_cons_succ]
          refine wpAnyH_take (i := 2) (v := .agg #[.int .i64 xT, .int .i64 yT, .int .i64 zT]) rfl (by kernel_rfl) (by kernel_rfl) (by kernel_rfl) (fun _ _ _ h => h) (yieldsIf_load_blk 45 _ ((w4.heap.size + 1 + 1)) (fun _ h => h.2.2) Try.underlying45 (by kernel_rfl) (by rfl) rfl rfl) hHeld ?_
          simp only [Act.put, List.getElem_toArray, List.getElem_cons_succ, List.getElem_cons_zero, List.setIfInBounds_toArray, List.set_cons_zero, List.set_cons_succ]
          refine wpAnyH_ready (rs := [3]) (by kernel_rfl) (by simp) ?_
          refine AllReadyH.cons rfl (fun K hK => ?_) AllReadyH.nil
          refine step_store_part 45 _ _ _ 0 (.agg #[.int .i64 x2, .int .i64 y2, .int .i64 z2]) #[.int .i64 x2, .int .i64 y2, .int .i64 z2] (Blk.kp (Kp.ka0 HK.out (by repeat (with_reducible first | exact Kp.refl _ _ | refine Kp.alloc _ ?_ | refine Kp.drew ?_ | refine Kp.drewN _ ?_))) (by first | omega | (simp; omega)) HR1.out) rfl rfl rfl rfl rfl (by rfl) (by kernel_rfl) (by simp [Value.oneCell']) (by simp) ?_; intro wS hBS hkb; simp only [setL, List.setIfInBounds_toArray, List.set_cons_zero, List.set_cons_succ] at hBS; have hka := Kp.ka HK.out hkb (by repeat (with_reducible first | exact Kp.refl _ _ | refine Kp.alloc _ ?_ | refine Kp.drew ?_ | refine Kp.drewN _ ?_)); have hlSo := HS.out.lt; (try (replace HP := Lib.hid (Blk.kp2 hka hkb (by first | omega | (simp; omega)) (by first | omega | (simp; omega)) HP.out))); (try (replace HQ := Lib.hid (Blk.kp2 hka hkb (by first | omega | (simp; omega)) (by first | omega | (simp; omega)) HQ.out))); (try (replace HT := Lib.hid (Blk.kp2 hka hkb (by first | omega | (simp; omega)) (by first | omega | (simp; omega)) HT.out))); (try (replace HR2 := Lib.hid (Blk.kp2 hka hkb (by first | omega | (simp; omega)) (by first | omega | (simp; omega)) HR2.out))); (try (replace HR3 := Lib.hid (Blk.kp2 hka hkb (by first | omega | (simp; omega)) (by first | omega | (simp; omega)) HR3.out))); (try replace HS := Lib.hid (Src.kpg2 HS.out (by repeat (with_reducible first | exact Below.refl _ _ | refine Bel.alloc ?_ _ | refine Below.drew ?_ | refine Bel.drewN ?_ _)) hkb (by first | omega | (simp; omega)))); replace HR1 := Lib.hid hBS; replace HK := Lib.hid (Kp.own hkb (by first | omega | (simp; omega)) (Kp.trans HK.out hka)); have hszS := hkb.size_; have hsyS := hka.size_; (try simp only [World.size_alloc, World.size_drew, World.heap_drewN, World.size_setCell] at hszS hsyS); clear hBS hka hkb hlSo; have hlSS := HS.out.lt
          refine hK.out _ _ (⟨HP.out, HQ.out, HT.out⟩) (fun hHeld => ?_)
          clear hK K
          try simp only [Act.put, List.setIfInBounds_toArray, List.set_cons_zero, List.set_cons_succ]
          refine wpAnyH_ready (rs := [4]) (by kernel_rfl) (by simp) ?_
          refine AllReadyH.cons rfl (fun K hK => ?_) AllReadyH.nil
          refine step_store_part 45 _ _ _ 0 (.agg #[.int .i64 x3, .int .i64 y3, .int .i64 z3]) #[.int .i64 x3, .int .i64 y3, .int .i64 z3] (Blk.kp (Kp.ka0 HK.out (by repeat (with_reducible first | exact Kp.refl _ _ | refine Kp.alloc _ ?_ | refine Kp.drew ?_ | refine Kp.drewN _ ?_))) (by first | omega | (simp; omega)) HR2.out) rfl rfl rfl rfl rfl (by rfl) (by kernel_rfl) (by simp [Value.oneCell']) (by simp) ?_; intro wS hBS hkb; simp only [setL, List.setIfInBounds_toArray, List.set_cons_zero, List.set_cons_succ] at hBS; have hka := Kp.ka HK.out hkb (by repeat (with_reducible first | exact Kp.refl _ _ | refine Kp.alloc _ ?_ | refine Kp.drew ?_ | refine Kp.drewN _ ?_)); have hlSo := HS.out.lt; (try (replace HP := Lib.hid (Blk.kp2 hka hkb (by first | omega | (simp; omega)) (by first | omega | (simp; omega)) HP.out))); (try (replace HQ := Lib.hid (Blk.kp2 hka hkb (by first | omega | (simp; omega)) (by first | omega | (simp; omega)) HQ.out))); (try (replace HT := Lib.hid (Blk.kp2 hka hkb (by first | omega | (simp; omega)) (by first | omega | (simp; omega)) HT.out))); (try (replace HR1 := Lib.hid (Blk.kp2 hka hkb (by first | omega | (simp; omega)) (by first | omega | (simp; omega)) HR1.out))); (try (replace HR3 := Lib.hid (Blk.kp2 hka hkb (by first | omega | (simp; omega)) (by first | omega | (simp; omega)) HR3.out))); (try replace HS := Lib.hid (Src.kpg2 HS.out (by repeat (with_reducible first | exact Below.refl _ _ | refine Bel.alloc ?_ _ | refine Below.drew ?_ | refine Bel.drewN ?_ _)) hkb (by first | omega | (simp; omega)))); replace HR2 := Lib.hid hBS; replace HK := Lib.hid (Kp.own hkb (by first | omega | (simp; omega)) (Kp.trans HK.out hka)); have hszS := hkb.size_; have hsyS := hka.size_; (try simp only [World.size_alloc, World.size_drew, World.heap_drewN, World.size_setCell] at hszS hsyS); clear hBS hka hkb hlSo; have hlSS := HS.out.lt
          refine hK.out _ _ (⟨HP.out, HQ.out, HT.out⟩) (fun hHeld => ?_)
          clear hK K
          try simp only [Act.put, List.setIfInBounds_toArray, List.set_cons_zero, List.set_cons_succ]
          refine wpAnyH_ready (rs := [5]) (by kernel_rfl) (by simp) ?_
          refine AllReadyH.cons rfl (fun K hK => ?_) AllReadyH.nil
          refine step_store_part 45 _ _ _ 0 (.agg #[.int .i64 xT, .int .i64 yT, .int .i64 zT]) #[.int .i64 xT, .int .i64 yT, .int .i64 zT] (Blk.kp (Kp.ka0 HK.out (by repeat (with_reducible first | exact Kp.refl _ _ | refine Kp.alloc _ ?_ | refine Kp.drew ?_ | refine Kp.drewN _ ?_))) (by first | omega | (simp; omega)) HR3.out) rfl rfl rfl rfl rfl (by rfl) (by kernel_rfl) (by simp [Value.oneCell']) (by simp) ?_; intro wS hBS hkb; simp only [setL, List.setIfInBounds_toArray, List.set_cons_zero, List.set_cons_succ] at hBS; have hka := Kp.ka HK.out hkb (by repeat (with_reducible first | exact Kp.refl _ _ | refine Kp.alloc _ ?_ | refine Kp.drew ?_ | refine Kp.drewN _ ?_)); have hlSo := HS.out.lt; (try (replace HP := Lib.hid (Blk.kp2 hka hkb (by first | omega | (simp; omega)) (by first | omega | (simp; omega)) HP.out))); (try (replace HQ := Lib.hid (Blk.kp2 hka hkb (by first | omega | (simp; omega)) (by first | omega | (simp; omega)) HQ.out))); (try (replace HT := Lib.hid (Blk.kp2 hka hkb (by first | omega | (simp; omega)) (by first | omega | (simp; omega)) HT.out))); (try (replace HR1 := Lib.hid (Blk.kp2 hka hkb (by first | omega | (simp; omega)) (by first | omega | (simp; omega)) HR1.out))); (try (replace HR2 := Lib.hid (Blk.kp2 hka hkb (by first | omega | (simp; omega)) (by first | omega | (simp; omega)) HR2.out))); (try replace HS := Lib.hid (Src.kpg2 HS.out (by repeat (with_reducible first | exact Below.refl _ _ | refine Bel.alloc ?_ _ | refine Below.drew ?_ | refine Bel.drewN ?_ _)) hkb (by first | omega | (simp; omega)))); replace HR3 := Lib.hid hBS; replace HK := Lib.hid (Kp.own hkb (by first | omega | (simp; omega)) (Kp.trans HK.out hka)); have hszS := hkb.size_; have hsyS := hka.size_; (try simp only [World.size_alloc, World.size_drew, World.heap_drewN, World.size_setCell] at hszS hsyS); clear hBS hka hkb hlSo; have hlSS := HS.out.lt
          refine hK.out _ _ (⟨HP.out, HQ.out, HT.out⟩) (fun hHeld => ?_)
          clear hK K
          try simp only [Act.put, List.setIfInBounds_toArray, List.set_cons_zero, List.set_cons_succ]
          refine wpAnyH_done (by kernel_rfl) ?_ _
          go_wp2
          exact bodyPost_ret (results_3 rfl (resF_cell HR1.out Try.underlying45 (by kernel_rfl) rfl) (resF_cell HR2.out Try.underlying45 (by kernel_rfl) rfl) (resF_cell HR3.out Try.underlying45 (by kernel_rfl) rfl)) rfl ⟨_, _, _, _, _, _, _, _, _, rfl, Kp.toBel HK.out (by omega)⟩
        | true =>
          go_wp2_with fail
          go_at_call 73; refine (l01Next_c X A zs _ (by omega) _ (by repeat (with_reducible first | exact HS.out | refine Src.alloc _ ?_ | refine Src.drew ?_ | refine Src.drewN _ ?_ | (refine Src.far _ ?_ ?_; (have := HS.out.lt; first | omega | (simp; omega))) | (refine Src.setRow _ ?_ ?_; (have := HS.out.lt; first | omega | (simp; omega)))))).mono ?_; rintro e w9 ⟨x9, rfl, hx9, hy9, hd9⟩; (try rw [Int.max_eq_left (by omega)] at hy9); have hkb := hd9.kp; have hka := Kp.ka HK.out hkb (by repeat (with_reducible first | exact Kp.refl _ _ | refine Kp.alloc _ ?_ | refine Kp.drew ?_ | refine Kp.drewN _ ?_)); have hlS9 := HS.out.lt; (try (replace HR1 := Lib.hid (Blk.kp2 hka hkb (by first | omega | (simp; omega)) (by first | omega | (simp; omega)) HR1.out))); (try (replace HR2 := Lib.hid (Blk.kp2 hka hkb (by first | omega | (simp; omega)) (by first | omega | (simp; omega)) HR2.out))); (try (replace HR3 := Lib.hid (Blk.kp2 hka hkb (by first | omega | (simp; omega)) (by first | omega | (simp; omega)) HR3.out))); (try (replace HP := Lib.hid (Blk.kp2 hka hkb (by first | omega | (simp; omega)) (by first | omega | (simp; omega)) HP.out))); (try (replace HQ := Lib.hid (Blk.kp2 hka hkb (by first | omega | (simp; omega)) (by first | omega | (simp; omega)) HQ.out))); (try (replace HT := Lib.hid (Blk.kp2 hka hkb (by first | omega | (simp; omega)) (by first | omega | (simp; omega)) HT.out))); replace HK := Lib.hid (Kp.trans HK.out (Kp.trans hka hkb)); have hsz9 := hkb.size_; have hsy9 := hka.size_; (try simp only [World.size_alloc, World.size_drew, World.heap_drewN, World.size_setCell] at hsz9 hsy9); replace HS := Lib.hid hd9.src; clear hka hkb hd9 hlS9; have hlS9 := HS.out.lt
          by_cases h9 : x9 = 0
          rotate_left
          · skip
            obtain ⟨V, rfl⟩ : ∃ V : World, V = w9 := ⟨_, rfl⟩
            obtain ⟨xT, rfl⟩ : ∃ a : Int, a = x4 := ⟨_, rfl⟩
            obtain ⟨yT, rfl⟩ : ∃ a : Int, a = y4 := ⟨_, rfl⟩
            obtain ⟨zT, rfl⟩ : ∃ a : Int, a = z4 := ⟨_, rfl⟩
            go_upto_region 8 with (fail)
            have hlP := HP.out.lt
            have hlQ := HQ.out.lt
            have hlT := HT.out.lt
            refine wp_region_held_drew (S := fun W => Blk W w4.heap.size 45 #[.int .i64 x2, .int .i64 y2, .int .i64 z2] ∧ Blk W (w4.heap.size + 1) 45 #[.int .i64 x3, .int .i64 y3, .int .i64 z3] ∧ Blk W (w4.heap.size + 1 + 1) 45 #[.int .i64 xT, .int .i64 yT, .int .i64 zT]) (by kernel_rfl) (⟨HP.out.drew, HQ.out.drew, HT.out.drew⟩) (fun hHeld => ?_)
            replace HP := Lib.hid HP.out.drew
            replace HQ := Lib.hid HQ.out.drew
            replace HT := Lib.hid HT.out.drew
            replace HR1 := Lib.hid HR1.out.drew
            replace HR2 := Lib.hid HR2.out.drew
            replace HR3 := Lib.hid HR3.out.drew
            replace HS := Lib.hid HS.out.drew
            replace HK := Lib.hid HK.out.drew
            have hsd : V.drew.heap.size = V.heap.size := rfl
            rw [← hsd] at hlP hlQ hlT
            clear hsd
            generalize V.drew = v at HP HQ HT HR1 HR2 HR3 HS HK hHeld hlP hlQ hlT ⊢
            refine wpAnyH_take (i := 0) (v := .agg #[.int .i64 x2, .int .i64 y2, .int .i64 z2]) rfl (by kernel_rfl) (by kernel_rfl) (by kernel_rfl) (fun _ _ _ h => h) (yieldsIf_load_blk 45 _ (w4.heap.size) (fun _ h => h.1) Try.underlying45 (by kernel_rfl) (by rfl) rfl rfl) hHeld ?_
            simp only [Act.put, List.getElem_toArray, List.getElem_cons_succ, List.getElem_cons_zero, List.setIfInBounds_toArray, List.set_cons_zero, List.set_cons_succ]
            refine wpAnyH_take (i := 1) (v := .agg #[.int .i64 x3, .int .i64 y3, .int .i64 z3]) rfl (by kernel_rfl) (by kernel_rfl) (by kernel_rfl) (fun _ _ _ h => h) (yieldsIf_load_blk 45 _ ((w4.heap.size + 1)) (fun _ h => h.2.1) Try.underlying45 (by kernel_rfl) (by rfl) rfl rfl) hHeld ?_
            simp only [Act.put, List.getElem_toArray, List.getElem_cons_succ, List.getElem_cons_zero, List.setIfInBounds_toArray, List.set_cons_zero, List.set_cons_succ]
            refine wpAnyH_take (i := 2) (v := .agg #[.int .i64 xT, .int .i64 yT, .int .i64 zT]) rfl (by kernel_rfl) (by kernel_rfl) (by kernel_rfl) (fun _ _ _ h => h) (yieldsIf_load_blk 45 _ ((w4.heap.size + 1 + 1)) (fun _ h => h.2.2) Try.underlying45 (by kernel_rfl) (by rfl) rfl rfl) hHeld ?_
            simp only [Act.put, List.getElem_toArray, List.getElem_cons_succ, List.getElem_cons_zero, List.setIfInBounds_toArray, List.set_cons_zero, List.set_cons_succ]
            refine wpAnyH_ready (rs := [3]) (by kernel_rfl) (by simp) ?_
            refine AllReadyH.cons rfl (fun K hK => ?_) AllReadyH.nil
            refine step_store_part 45 _ _ _ 0 (.agg #[.int .i64 x2, .int .i64 y2, .int .i64 z2]) #[.int .i64 x2, .int .i64 y2, .int .i64 z2] (Blk.kp (Kp.ka0 HK.out (by repeat (with_reducible first | exact Kp.refl _ _ | refine Kp.alloc _ ?_ | refine Kp.drew ?_ | refine Kp.drewN _ ?_))) (by first | omega | (simp; omega)) HR1.out) rfl rfl rfl rfl rfl (by rfl) (by kernel_rfl) (by simp [Value.oneCell']) (by simp) ?_; intro wS hBS hkb; simp only [setL, List.setIfInBounds_toArray, List.set_cons_zero, List.set_cons_succ] at hBS; have hka := Kp.ka HK.out hkb (by repeat (with_reducible first | exact Kp.refl _ _ | refine Kp.alloc _ ?_ | refine Kp.drew ?_ | refine Kp.drewN _ ?_)); have hlSo := HS.out.lt; (try (replace HP := Lib.hid (Blk.kp2 hka hkb (by first | omega | (simp; omega)) (by first | omega | (simp; omega)) HP.out))); (try (replace HQ := Lib.hid (Blk.kp2 hka hkb (by first | omega | (simp; omega)) (by first | omega | (simp; omega)) HQ.out))); (try (replace HT := Lib.hid (Blk.kp2 hka hkb (by first | omega | (simp; omega)) (by first | omega | (simp; omega)) HT.out))); (try (replace HR2 := Lib.hid (Blk.kp2 hka hkb (by first | omega | (simp; omega)) (by first | omega | (simp; omega)) HR2.out))); (try (replace HR3 := Lib.hid (Blk.kp2 hka hkb (by first | omega | (simp; omega)) (by first | omega | (simp; omega)) HR3.out))); (try replace HS := Lib.hid (Src.kpg2 HS.out (by repeat (with_reducible first | exact Below.refl _ _ | refine Bel.alloc ?_ _ | refine Below.drew ?_ | refine Bel.drewN ?_ _)) hkb (by first | omega | (simp; omega)))); replace HR1 := Lib.hid hBS; replace HK := Lib.hid (Kp.own hkb (by first | omega | (simp; omega)) (Kp.trans HK.out hka)); have hszS := hkb.size_; have hsyS := hka.size_; (try simp only [World.size_alloc, World.size_drew, World.heap_drewN, World.size_setCell] at hszS hsyS); clear hBS hka hkb hlSo; have hlSS := HS.out.lt
            refine hK.out _ _ (⟨HP.out, HQ.out, HT.out⟩) (fun hHeld => ?_)
            clear hK K
            try simp only [Act.put, List.setIfInBounds_toArray, List.set_cons_zero, List.set_cons_succ]
            refine wpAnyH_ready (rs := [4]) (by kernel_rfl) (by simp) ?_
            refine AllReadyH.cons rfl (fun K hK => ?_) AllReadyH.nil
            refine step_store_part 45 _ _ _ 0 (.agg #[.int .i64 x3, .int .i64 y3, .int .i64 z3]) #[.int .i64 x3, .int .i64 y3, .int .i64 z3] (Blk.kp (Kp.ka0 HK.out (by repeat (with_reducible first | exact Kp.refl _ _ | refine Kp.alloc _ ?_ | refine Kp.drew ?_ | refine Kp.drewN _ ?_))) (by first | omega | (simp; omega)) HR2.out) rfl rfl rfl rfl rfl (by rfl) (by kernel_rfl) (by simp [Value.oneCell']) (by simp) ?_; intro wS hBS hkb; simp only [setL, List.setIfInBounds_toArray, List.set_cons_zero, List.set_cons_succ] at hBS; have hka := Kp.ka HK.out hkb (by repeat (with_reducible first | exact Kp.refl _ _ | refine Kp.alloc _ ?_ | refine Kp.drew ?_ | refine Kp.drewN _ ?_)); have hlSo := HS.out.lt; (try (replace HP := Lib.hid (Blk.kp2 hka hkb (by first | omega | (simp; omega)) (by first | omega | (simp; omega)) HP.out))); (try (replace HQ := Lib.hid (Blk.kp2 hka hkb (by first | omega | (simp; omega)) (by first | omega | (simp; omega)) HQ.out))); (try (replace HT := Lib.hid (Blk.kp2 hka hkb (by first | omega | (simp; omega)) (by first | omega | (simp; omega)) HT.out))); (try (replace HR1 := Lib.hid (Blk.kp2 hka hkb (by first | omega | (simp; omega)) (by first | omega | (simp; omega)) HR1.out))); (try (replace HR3 := Lib.hid (Blk.kp2 hka hkb (by first | omega | (simp; omega)) (by first | omega | (simp; omega)) HR3.out))); (try replace HS := Lib.hid (Src.kpg2 HS.out (by repeat (with_reducible first | exact Below.refl _ _ | refine Bel.alloc ?_ _ | refine Below.drew ?_ | refine Bel.drewN ?_ _)) hkb (by first | omega | (simp; omega)))); replace HR2 := Lib.hid hBS; replace HK := Lib.hid (Kp.own hkb (by first | omega | (simp; omega)) (Kp.trans HK.out hka)); have hszS := hkb.size_; have hsyS := hka.size_; (try simp only [World.size_alloc, World.size_drew, World.heap_drewN, World.size_setCell] at hszS hsyS); clear hBS hka hkb hlSo; have hlSS := HS.out.lt
            refine hK.out _ _ (⟨HP.out, HQ.out, HT.out⟩) (fun hHeld => ?_)
            clear hK K
            try simp only [Act.put, List.setIfInBounds_toArray, List.set_cons_zero, List.set_cons_succ]
            refine wpAnyH_ready (rs := [5]) (by kernel_rfl) (by simp) ?_
            refine AllReadyH.cons rfl (fun K hK => ?_) AllReadyH.nil
            refine step_store_part 45 _ _ _ 0 (.agg #[.int .i64 xT, .int .i64 yT, .int .i64 zT]) #[.int .i64 xT, .int .i64 yT, .int .i64 zT] (Blk.kp (Kp.ka0 HK.out (by repeat (with_reducible first | exact Kp.refl _ _ | refine Kp.alloc _ ?_ | refine Kp.drew ?_ | refine Kp.drewN _ ?_))) (by first | omega | (simp; omega)) HR3.out) rfl rfl rfl rfl rfl (by rfl) (by kernel_rfl) (by simp [Value.oneCell']) (by simp) ?_; intro wS hBS hkb; simp only [setL, List.setIfInBounds_toArray, List.set_cons_zero, List.set_cons_succ] at hBS; have hka := Kp.ka HK.out hkb (by repeat (with_reducible first | exact Kp.refl _ _ | refine Kp.alloc _ ?_ | refine Kp.drew ?_ | refine Kp.drewN _ ?_)); have hlSo := HS.out.lt; (try (replace HP := Lib.hid (Blk.kp2 hka hkb (by first | omega | (simp; omega)) (by first | omega | (simp; omega)) HP.out))); (try (replace HQ := Lib.hid (Blk.kp2 hka hkb (by first | omega | (simp; omega)) (by first | omega | (simp; omega)) HQ.out))); (try (replace HT := Lib.hid (Blk.kp2 hka hkb (by first | omega | (simp; omega)) (by first | omega | (simp; omega)) HT.out))); (try (replace HR1 := Lib.hid (Blk.kp2 hka hkb (by first | omega | (simp; omega)) (by first | omega | (simp; omega)) HR1.out))); (try (replace HR2 := Lib.hid (Blk.kp2 hka hkb (by first | omega | (simp; omega)) (by first | omega | (simp; omega)) HR2.out))); (try replace HS := Lib.hid (Src.kpg2 HS.out (by repeat (with_reducible first | exact Below.refl _ _ | refine Bel.alloc ?_ _ | refine Below.drew ?_ | refine Bel.drewN ?_ _)) hkb (by first | omega | (simp; omega)))); replace HR3 := Lib.hid hBS; replace HK := Lib.hid (Kp.own hkb (by first | omega | (simp; omega)) (Kp.trans HK.out hka)); have hszS := hkb.size_; have hsyS := hka.size_; (try simp only [World.size_alloc, World.size_drew, World.heap_drewN, World.size_setCell] at hszS hsyS); clear hBS hka hkb hlSo; have hlSS := HS.out.lt
            refine hK.out _ _ (⟨HP.out, HQ.out, HT.out⟩) (fun hHeld => ?_)
            clear hK K
            try simp only [Act.put, List.setIfInBounds_toArray, List.set_cons_zero, List.set_cons_succ]
            refine wpAnyH_done (by kernel_rfl) ?_ _
            go_wp2
            exact bodyPost_ret (results_3 rfl (resF_cell HR1.out Try.underlying45 (by kernel_rfl) rfl) (resF_cell HR2.out Try.underlying45 (by kernel_rfl) rfl) (resF_cell HR3.out Try.underlying45 (by kernel_rfl) rfl)) rfl ⟨_, _, _, _, _, _, _, _, _, rfl, Kp.toBel HK.out (by omega)⟩
          go_wp2_with fail
          go_at_call 73; refine (l01Next_c X A zs _ (by omega) _ (by repeat (with_reducible first | exact HS.out | refine Src.alloc _ ?_ | refine Src.drew ?_ | refine Src.drewN _ ?_ | (refine Src.far _ ?_ ?_; (have := HS.out.lt; first | omega | (simp; omega))) | (refine Src.setRow _ ?_ ?_; (have := HS.out.lt; first | omega | (simp; omega)))))).mono ?_; rintro e w10 ⟨x10, rfl, hx10, hy10, hd10⟩; (try rw [Int.max_eq_left (by omega)] at hy10); have hkb := hd10.kp; have hka := Kp.ka HK.out hkb (by repeat (with_reducible first | exact Kp.refl _ _ | refine Kp.alloc _ ?_ | refine Kp.drew ?_ | refine Kp.drewN _ ?_)); have hlS10 := HS.out.lt; (try (replace HR1 := Lib.hid (Blk.kp2 hka hkb (by first | omega | (simp; omega)) (by first | omega | (simp; omega)) HR1.out))); (try (replace HR2 := Lib.hid (Blk.kp2 hka hkb (by first | omega | (simp; omega)) (by first | omega | (simp; omega)) HR2.out))); (try (replace HR3 := Lib.hid (Blk.kp2 hka hkb (by first | omega | (simp; omega)) (by first | omega | (simp; omega)) HR3.out))); (try (replace HP := Lib.hid (Blk.kp2 hka hkb (by first | omega | (simp; omega)) (by first | omega | (simp; omega)) HP.out))); (try (replace HQ := Lib.hid (Blk.kp2 hka hkb (by first | omega | (simp; omega)) (by first | omega | (simp; omega)) HQ.out))); (try (replace HT := Lib.hid (Blk.kp2 hka hkb (by first | omega | (simp; omega)) (by first | omega | (simp; omega)) HT.out))); replace HK := Lib.hid (Kp.trans HK.out (Kp.trans hka hkb)); have hsz10 := hkb.size_; have hsy10 := hka.size_; (try simp only [World.size_alloc, World.size_drew, World.heap_drewN, World.size_setCell] at hsz10 hsy10); replace HS := Lib.hid hd10.src; clear hka hkb hd10 hlS10; have hlS10 := HS.out.lt
          have qP0 : w10.cell? ⟨w4.heap.size, 0, none⟩ = some (.int .i64 x2) := by rw [HP.out.cell]; rfl
          have qP1 : w10.cell? ⟨w4.heap.size, 1, none⟩ = some (.int .i64 y2) := by rw [HP.out.cell]; rfl
          have qP2 : w10.cell? ⟨w4.heap.size, 2, none⟩ = some (.int .i64 z2) := by rw [HP.out.cell]; rfl
          have qQ0 : w10.cell? ⟨w4.heap.size + 1, 0, none⟩ = some (.int .i64 x3) := by rw [HQ.out.cell]; rfl
          have qQ1 : w10.cell? ⟨w4.heap.size + 1, 1, none⟩ = some (.int .i64 y3) := by rw [HQ.out.cell]; rfl
          have qQ2 : w10.cell? ⟨w4.heap.size + 1, 2, none⟩ = some (.int .i64 z3) := by rw [HQ.out.cell]; rfl
          go_wp2_with fail
          go_at_call 40; refine (MakeRational_S _ _ _ _).mono ?_; rintro e w11 ⟨rfl, hb11⟩; replace HR1 := Lib.hid (Blk.step hb11 HR1.out); replace HR2 := Lib.hid (Blk.step hb11 HR2.out); replace HR3 := Lib.hid (Blk.step hb11 HR3.out); replace HP := Lib.hid (Blk.step hb11 HP.out); replace HQ := Lib.hid (Blk.step hb11 HQ.out); replace HT := Lib.hid (Blk.step hb11 HT.out); replace HS := Lib.hid (Src.step hb11 HS.out); replace HK := Lib.hid (Kp.below hb11 HK.out); have hsz11 := hb11.size; (try simp only [World.size_alloc] at hsz11); clear hb11; have hlS11 := HS.out.lt
          generalize mkV _ _ _ _ = px
          generalize mkV _ _ _ _ = py
          generalize mkV _ _ _ _ = pz
          generalize mkC _ _ _ = pc
          clear qP0 qP1 qP2 qQ0 qQ1 qQ2
          have HN := Lib.hid (Blk.new w11 45 #[.int .i64 px, .int .i64 py, .int .i64 pz])
          replace HR1 := Lib.hid (Blk.alloc (.cells #[.int .i64 px, .int .i64 py, .int .i64 pz] 45) HR1.out)
          replace HR2 := Lib.hid (Blk.alloc (.cells #[.int .i64 px, .int .i64 py, .int .i64 pz] 45) HR2.out)
          replace HR3 := Lib.hid (Blk.alloc (.cells #[.int .i64 px, .int .i64 py, .int .i64 pz] 45) HR3.out)
          replace HP := Lib.hid (Blk.alloc (.cells #[.int .i64 px, .int .i64 py, .int .i64 pz] 45) HP.out)
          replace HQ := Lib.hid (Blk.alloc (.cells #[.int .i64 px, .int .i64 py, .int .i64 pz] 45) HQ.out)
          replace HT := Lib.hid (Blk.alloc (.cells #[.int .i64 px, .int .i64 py, .int .i64 pz] 45) HT.out)
          replace HS := Lib.hid (Src.alloc (.cells #[.int .i64 px, .int .i64 py, .int .i64 pz] 45) HS.out)
          replace HK := Lib.hid (Kp.alloc (.cells #[.int .i64 px, .int .i64 py, .int .i64 pz] 45) HK.out)
          have hlN := HN.out.lt
          by_cases h10 : pc = 0
          rotate_left
          · go_upto_region 8 with (fail)
            generalize w11.alloc (.cells #[.int .i64 px, .int .i64 py, .int .i64 pz] 45) = V at HR1 HR2 HR3 HP HQ HT HN HS HK hlN ⊢
            obtain ⟨xT, rfl⟩ : ∃ a : Int, a = x4 := ⟨_, rfl⟩
            obtain ⟨yT, rfl⟩ : ∃ a : Int, a = y4 := ⟨_, rfl⟩
            obtain ⟨zT, rfl⟩ : ∃ a : Int, a = z4 := ⟨_, rfl⟩
            go_upto_region 8 with (fail)
            have hlP := HP.out.lt
            have hlQ := HQ.out.lt
            have hlT := HT.out.lt
            refine wp_region_held_drew (S := fun W => Blk W w4.heap.size 45 #[.int .i64 x2, .int .i64 y2, .int .i64 z2] ∧ Blk W (w4.heap.size + 1) 45 #[.int .i64 x3, .int .i64 y3, .int .i64 z3] ∧ Blk W (w4.heap.size + 1 + 1) 45 #[.int .i64 xT, .int .i64 yT, .int .i64 zT]) (by kernel_rfl) (⟨HP.out.drew, HQ.out.drew, HT.out.drew⟩) (fun hHeld => ?_)
            replace HP := Lib.hid HP.out.drew
            replace HQ := Lib.hid HQ.out.drew
            replace HT := Lib.hid HT.out.drew
            replace HR1 := Lib.hid HR1.out.drew
            replace HR2 := Lib.hid HR2.out.drew
            replace HR3 := Lib.hid HR3.out.drew
            replace HS := Lib.hid HS.out.drew
            replace HK := Lib.hid HK.out.drew
            have hsd : V.drew.heap.size = V.heap.size := rfl
            rw [← hsd] at hlP hlQ hlT
            clear hsd
            generalize V.drew = v at HP HQ HT HR1 HR2 HR3 HS HK hHeld hlP hlQ hlT ⊢
            refine wpAnyH_take (i := 0) (v := .agg #[.int .i64 x2, .int .i64 y2, .int .i64 z2]) rfl (by kernel_rfl) (by kernel_rfl) (by kernel_rfl) (fun _ _ _ h => h) (yieldsIf_load_blk 45 _ (w4.heap.size) (fun _ h => h.1) Try.underlying45 (by kernel_rfl) (by rfl) rfl rfl) hHeld ?_
            simp only [Act.put, List.getElem_toArray, List.getElem_cons_succ, List.getElem_cons_zero, List.setIfInBounds_toArray, List.set_cons_zero, List.set_cons_succ]
            refine wpAnyH_take (i := 1) (v := .agg #[.int .i64 x3, .int .i64 y3, .int .i64 z3]) rfl (by kernel_rfl) (by kernel_rfl) (by kernel_rfl) (fun _ _ _ h => h) (yieldsIf_load_blk 45 _ ((w4.heap.size + 1)) (fun _ h => h.2.1) Try.underlying45 (by kernel_rfl) (by rfl) rfl rfl) hHeld ?_
            simp only [Act.put, List.getElem_toArray, List.getElem_cons_succ, List.getElem_cons_zero, List.setIfInBounds_toArray, List.set_cons_zero, List.set_cons_succ]
            refine wpAnyH_take (i := 2) (v := .agg #[.int .i64 xT, .int .i64 yT, .int .i64 zT]) rfl (by kernel_rfl) (by kernel_rfl) (by kernel_rfl) (fun _ _ _ h => h) (yieldsIf_load_blk 45 _ ((w4.heap.size + 1 + 1)) (fun _ h => h.2.2) Try.underlying45 (by kernel_rfl) (by rfl) rfl rfl) hHeld ?_
            simp only [Act.put, List.getElem_toArray, List.getElem_cons_succ, List.getElem_cons_zero, List.setIfInBounds_toArray, List.set_cons_zero, List.set_cons_succ]
            refine wpAnyH_ready (rs := [3]) (by kernel_rfl) (by simp) ?_
            refine AllReadyH.cons rfl (fun K hK => ?_) AllReadyH.nil
            refine step_store_part 45 _ _ _ 0 (.agg #[.int .i64 x2, .int .i64 y2, .int .i64 z2]) #[.int .i64 x2, .int .i64 y2, .int .i64 z2] (Blk.kp (Kp.ka0 HK.out (by repeat (with_reducible first | exact Kp.refl _ _ | refine Kp.alloc _ ?_ | refine Kp.drew ?_ | refine Kp.drewN _ ?_))) (by first | omega | (simp; omega)) HR1.out) rfl rfl rfl rfl rfl (by rfl) (by kernel_rfl) (by simp [Value.oneCell']) (by simp) ?_; intro wS hBS hkb; simp only [setL, List.setIfInBounds_toArray, List.set_cons_zero, List.set_cons_succ] at hBS; have hka := Kp.ka HK.out hkb (by repeat (with_reducible first | exact Kp.refl _ _ | refine Kp.alloc _ ?_ | refine Kp.drew ?_ | refine Kp.drewN _ ?_)); have hlSo := HS.out.lt; (try (replace HP := Lib.hid (Blk.kp2 hka hkb (by first | omega | (simp; omega)) (by first | omega | (simp; omega)) HP.out))); (try (replace HQ := Lib.hid (Blk.kp2 hka hkb (by first | omega | (simp; omega)) (by first | omega | (simp; omega)) HQ.out))); (try (replace HT := Lib.hid (Blk.kp2 hka hkb (by first | omega | (simp; omega)) (by first | omega | (simp; omega)) HT.out))); (try (replace HR2 := Lib.hid (Blk.kp2 hka hkb (by first | omega | (simp; omega)) (by first | omega | (simp; omega)) HR2.out))); (try (replace HR3 := Lib.hid (Blk.kp2 hka hkb (by first | omega | (simp; omega)) (by first | omega | (simp; omega)) HR3.out))); (try replace HS := Lib.hid (Src.kpg2 HS.out (by repeat (with_reducible first | exact Below.refl _ _ | refine Bel.alloc ?_ _ | refine Below.drew ?_ | refine Bel.drewN ?_ _)) hkb (by first | omega | (simp; omega)))); replace HR1 := Lib.hid hBS; replace HK := Lib.hid (Kp.own hkb (by first | omega | (simp; omega)) (Kp.trans HK.out hka)); have hszS := hkb.size_; have hsyS := hka.size_; (try simp only [World.size_alloc, World.size_drew, World.heap_drewN, World.size_setCell] at hszS hsyS); clear hBS hka hkb hlSo; have hlSS := HS.out.lt
            refine hK.out _ _ (⟨HP.out, HQ.out, HT.out⟩) (fun hHeld => ?_)
            clear hK K
            try simp only [Act.put, List.setIfInBounds_toArray, List.set_cons_zero, List.set_cons_succ]
            refine wpAnyH_ready (rs := [4]) (by kernel_rfl) (by simp) ?_
            refine AllReadyH.cons rfl (fun K hK => ?_) AllReadyH.nil
            refine step_store_part 45 _ _ _ 0 (.agg #[.int .i64 x3, .int .i64 y3, .int .i64 z3]) #[.int .i64 x3, .int .i64 y3, .int .i64 z3] (Blk.kp (Kp.ka0 HK.out (by repeat (with_reducible first | exact Kp.refl _ _ | refine Kp.alloc _ ?_ | refine Kp.drew ?_ | refine Kp.drewN _ ?_))) (by first | omega | (simp; omega)) HR2.out) rfl rfl rfl rfl rfl (by rfl) (by kernel_rfl) (by simp [Value.oneCell']) (by simp) ?_; intro wS hBS hkb; simp only [setL, List.setIfInBounds_toArray, List.set_cons_zero, List.set_cons_succ] at hBS; have hka := Kp.ka HK.out hkb (by repeat (with_reducible first | exact Kp.refl _ _ | refine Kp.alloc _ ?_ | refine Kp.drew ?_ | refine Kp.drewN _ ?_)); have hlSo := HS.out.lt; (try (replace HP := Lib.hid (Blk.kp2 hka hkb (by first | omega | (simp; omega)) (by first | omega | (simp; omega)) HP.out))); (try (replace HQ := Lib.hid (Blk.kp2 hka hkb (by first | omega | (simp; omega)) (by first | omega | (simp; omega)) HQ.out))); (try (replace HT := Lib.hid (Blk.kp2 hka hkb (by first | omega | (simp; omega)) (by first | omega | (simp; omega)) HT.out))); (try (replace HR1 := Lib.hid (Blk.kp2 hka hkb (by first | omega | (simp; omega)) (by first | omega | (simp; omega)) HR1.out))); (try (replace HR3 := Lib.hid (Blk.kp2 hka hkb (by first | omega | (simp; omega)) (by first | omega | (simp; omega)) HR3.out))); (try replace HS := Lib.hid (Src.kpg2 HS.out (by repeat (with_reducible first | exact Below.refl _ _ | refine Bel.alloc ?_ _ | refine Below.drew ?_ | refine Bel.drewN ?_ _)) hkb (by first | omega | (simp; omega)))); replace HR2 := Lib.hid hBS; replace HK := Lib.hid (Kp.own hkb (by first | omega | (simp; omega)) (Kp.trans HK.out hka)); have hszS := hkb.size_; have hsyS := hka.size_; (try simp only [World.size_alloc, World.size_drew, World.heap_drewN, World.size_setCell] at hszS hsyS); clear hBS hka hkb hlSo; have hlSS := HS.out.lt
            refine hK.out _ _ (⟨HP.out, HQ.out, HT.out⟩) (fun hHeld => ?_)
            clear hK K
            try simp only [Act.put, List.setIfInBounds_toArray, List.set_cons_zero, List.set_cons_succ]
            refine wpAnyH_ready (rs := [5]) (by kernel_rfl) (by simp) ?_
            refine AllReadyH.cons rfl (fun K hK => ?_) AllReadyH.nil
            refine step_store_part 45 _ _ _ 0 (.agg #[.int .i64 xT, .int .i64 yT, .int .i64 zT]) #[.int .i64 xT, .int .i64 yT, .int .i64 zT] (Blk.kp (Kp.ka0 HK.out (by repeat (with_reducible first | exact Kp.refl _ _ | refine Kp.alloc _ ?_ | refine Kp.drew ?_ | refine Kp.drewN _ ?_))) (by first | omega | (simp; omega)) HR3.out) rfl rfl rfl rfl rfl (by rfl) (by kernel_rfl) (by simp [Value.oneCell']) (by simp) ?_; intro wS hBS hkb; simp only [setL, List.setIfInBounds_toArray, List.set_cons_zero, List.set_cons_succ] at hBS; have hka := Kp.ka HK.out hkb (by repeat (with_reducible first | exact Kp.refl _ _ | refine Kp.alloc _ ?_ | refine Kp.drew ?_ | refine Kp.drewN _ ?_)); have hlSo := HS.out.lt; (try (replace HP := Lib.hid (Blk.kp2 hka hkb (by first | omega | (simp; omega)) (by first | omega | (simp; omega)) HP.out))); (try (replace HQ := Lib.hid (Blk.kp2 hka hkb (by first | omega | (simp; omega)) (by first | omega | (simp; omega)) HQ.out))); (try (replace HT := Lib.hid (Blk.kp2 hka hkb (by first | omega | (simp; omega)) (by first | omega | (simp; omega)) HT.out))); (try (replace HR1 := Lib.hid (Blk.kp2 hka hkb (by first | omega | (simp; omega)) (by first | omega | (simp; omega)) HR1.out))); (try (replace HR2 := Lib.hid (Blk.kp2 hka hkb (by first | omega | (simp; omega)) (by first | omega | (simp; omega)) HR2.out))); (try replace HS := Lib.hid (Src.kpg2 HS.out (by repeat (with_reducible first | exact Below.refl _ _ | refine Bel.alloc ?_ _ | refine Below.drew ?_ | refine Bel.drewN ?_ _)) hkb (by first | omega | (simp; omega)))); replace HR3 := Lib.hid hBS; replace HK := Lib.hid (Kp.own hkb (by first | omega | (simp; omega)) (Kp.trans HK.out hka)); have hszS := hkb.size_; have hsyS := hka.size_; (try simp only [World.size_alloc, World.size_drew, World.heap_drewN, World.size_setCell] at hszS hsyS); clear hBS hka hkb hlSo; have hlSS := HS.out.lt
            refine hK.out _ _ (⟨HP.out, HQ.out, HT.out⟩) (fun hHeld => ?_)
            clear hK K
            try simp only [Act.put, List.setIfInBounds_toArray, List.set_cons_zero, List.set_cons_succ]
            refine wpAnyH_done (by kernel_rfl) ?_ _
            go_wp2
            exact bodyPost_ret (results_3 rfl (resF_cell HR1.out Try.underlying45 (by kernel_rfl) rfl) (resF_cell HR2.out Try.underlying45 (by kernel_rfl) rfl) (resF_cell HR3.out Try.underlying45 (by kernel_rfl) rfl)) rfl ⟨_, _, _, _, _, _, _, _, _, rfl, Kp.toBel HK.out (by omega)⟩
          go_wp2_with (first | (refine wpList_load_blkG 45 _ _ (Blk.kp (Kp.ka0 HK.out (by repeat (with_reducible first | exact Kp.refl _ _ | refine Kp.alloc _ ?_ | refine Kp.drew ?_ | refine Kp.drewN _ ?_))) (by first | omega | (simp; omega)) HN.out) Try.underlying45 (by kernel_rfl) rfl rfl (by rfl) ?_) | (refine wpList_store_part 45 _ _ _ 0 _ _ (Blk.kp (Kp.ka0 HK.out (by repeat (with_reducible first | exact Kp.refl _ _ | refine Kp.alloc _ ?_ | refine Kp.drew ?_ | refine Kp.drewN _ ?_))) (by first | omega | (simp; omega)) HT.out) rfl rfl rfl rfl (by rfl) (by kernel_rfl) (by simp [go_sem, Value.cells, Value.oneCell']) (by simp [go_sem, Value.cells]) ?_; intro wS hBS hkb; simp [go_sem, Value.cells, setL] at hBS; have hka := Kp.ka HK.out hkb (by repeat (with_reducible first | exact Kp.refl _ _ | refine Kp.alloc _ ?_ | refine Kp.drew ?_ | refine Kp.drewN _ ?_)); have hlSo := HS.out.lt; (try (replace HR1 := Lib.hid (Blk.kp2 hka hkb (by first | omega | (simp; omega)) (by first | omega | (simp; omega)) HR1.out))); (try (replace HR2 := Lib.hid (Blk.kp2 hka hkb (by first | omega | (simp; omega)) (by first | omega | (simp; omega)) HR2.out))); (try (replace HR3 := Lib.hid (Blk.kp2 hka hkb (by first | omega | (simp; omega)) (by first | omega | (simp; omega)) HR3.out))); (try (replace HP := Lib.hid (Blk.kp2 hka hkb (by first | omega | (simp; omega)) (by first | omega | (simp; omega)) HP.out))); (try (replace HQ := Lib.hid (Blk.kp2 hka hkb (by first | omega | (simp; omega)) (by first | omega | (simp; omega)) HQ.out))); (try (replace HN := Lib.hid (Blk.kp2 hka hkb (by first | omega | (simp; omega)) (by first | omega | (simp; omega)) HN.out))); (try replace HS := Lib.hid (Src.kpg2 HS.out (by repeat (with_reducible first | exact Below.refl _ _ | refine Bel.alloc ?_ _ | refine Below.drew ?_ | refine Bel.drewN ?_ _)) hkb (by first | omega | (simp; omega)))); replace HT := Lib.hid hBS; replace HK := Lib.hid (Kp.own hkb (by first | omega | (simp; omega)) (Kp.trans HK.out hka)); have hszS := hkb.size_; have hsyS := hka.size_; (try simp only [World.size_alloc, World.size_drew, World.heap_drewN, World.size_setCell] at hszS hsyS); clear hBS hka hkb hlSo; have hlSS := HS.out.lt))
          obtain ⟨V, rfl⟩ : ∃ V : World, V = wS := ⟨_, rfl⟩
          obtain ⟨xT, rfl⟩ : ∃ a : Int, a = px := ⟨_, rfl⟩
          obtain ⟨yT, rfl⟩ : ∃ a : Int, a = py := ⟨_, rfl⟩
          obtain ⟨zT, rfl⟩ : ∃ a : Int, a = pz := ⟨_, rfl⟩
          go_upto_region 8 with (fail)
          have hlP := HP.out.lt
          have hlQ := HQ.out.lt
          have hlT := HT.out.lt
          refine wp_region_held_drew (S := fun W => Blk W w4.heap.size 45 #[.int .i64 x2, .int .i64 y2, .int .i64 z2] ∧ Blk W (w4.heap.size + 1) 45 #[.int .i64 x3, .int .i64 y3, .int .i64 z3] ∧ Blk W (w4.heap.size + 1 + 1) 45 #[.int .i64 xT, .int .i64 yT, .int .i64 zT]) (by kernel_rfl) (⟨HP.out.drew, HQ.out.drew, HT.out.drew⟩) (fun hHeld => ?_)
          replace HP := Lib.hid HP.out.drew
          replace HQ := Lib.hid HQ.out.drew
          replace HT := Lib.hid HT.out.drew
          replace HR1 := Lib.hid HR1.out.drew
          replace HR2 := Lib.hid HR2.out.drew
          replace HR3 := Lib.hid HR3.out.drew
          replace HS := Lib.hid HS.out.drew
          replace HK := Lib.hid HK.out.drew
          have hsd : V.drew.heap.size = V.heap.size := rfl
          rw [← hsd] at hlP hlQ hlT
          clear hsd
          generalize V.drew = v at HP HQ HT HR1 HR2 HR3 HS HK hHeld hlP hlQ hlT ⊢
          refine wpAnyH_take (i := 0) (v := .agg #[.int .i64 x2, .int .i64 y2, .int .i64 z2]) rfl (by kernel_rfl) (by kernel_rfl) (by kernel_rfl) (fun _ _ _ h => h) (yieldsIf_load_blk 45 _ (w4.heap.size) (fun _ h => h.1) Try.underlying45 (by kernel_rfl) (by rfl) rfl rfl) hHeld ?_
          simp only [Act.put, List.getElem_toArray, List.getElem_cons_succ, List.getElem_cons_zero, List.setIfInBounds_toArray, List.set_cons_zero, List.set_cons_succ]
          refine wpAnyH_take (i := 1) (v := .agg #[.int .i64 x3, .int .i64 y3, .int .i64 z3]) rfl (by kernel_rfl) (by kernel_rfl) (by kernel_rfl) (fun _ _ _ h => h) (yieldsIf_load_blk 45 _ ((w4.heap.size + 1)) (fun _ h => h.2.1) Try.underlying45 (by kernel_rfl) (by rfl) rfl rfl) hHeld ?_
          simp only [Act.put, List.getElem_toArray, List.getElem_cons_succ, List.getElem_cons_zero, List.setIfInBounds_toArray, List.set_cons_zero, List.set_cons_succ]
          refine wpAnyH_take (i := 2) (v := .agg #[.int .i64 xT, .int .i64 yT, .int .i64 zT]) rfl (by kernel_rfl) (by kernel_rfl) (by kernel_rfl) (fun _ _ _ h => h) (yieldsIf_load_blk 45 _ ((w4.heap.size + 1 + 1)) (fun _ h => h.2.2) Try.underlying45 (by kernel_rfl) (by rfl) rfl rfl) hHeld ?_
          simp only [Act.put, List.getElem_toArray, List.getElem_cons_succ, List.getElem_cons_zero, List.setIfInBounds_toArray, List.set_cons_zero, List.set_cons_succ]
          refine wpAnyH_ready (rs := [3]) (by kernel_rfl) (by simp) ?_
          refine AllReadyH.cons rfl (fun K hK => ?_) AllReadyH.nil
          refine step_store_part 45 _ _ _ 0 (.agg #[.int .i64 x2, .int .i64 y2, .int .i64 z2]) #[.int .i64 x2, .int .i64 y2, .int .i64 z2] (Blk.kp (Kp.ka0 HK.out (by repeat (with_reducible first | exact Kp.refl _ _ | refine Kp.alloc _ ?_ | refine Kp.drew ?_ | refine Kp.drewN _ ?_))) (by first | omega | (simp; omega)) HR1.out) rfl rfl rfl rfl rfl (by rfl) (by kernel_rfl) (by simp [Value.oneCell']) (by simp) ?_; intro wS hBS hkb; simp only [setL, List.setIfInBounds_toArray, List.set_cons_zero, List.set_cons_succ] at hBS; have hka := Kp.ka HK.out hkb (by repeat (with_reducible first | exact Kp.refl _ _ | refine Kp.alloc _ ?_ | refine Kp.drew ?_ | refine Kp.drewN _ ?_)); have hlSo := HS.out.lt; (try (replace HP := Lib.hid (Blk.kp2 hka hkb (by first | omega | (simp; omega)) (by first | omega | (simp; omega)) HP.out))); (try (replace HQ := Lib.hid (Blk.kp2 hka hkb (by first | omega | (simp; omega)) (by first | omega | (simp; omega)) HQ.out))); (try (replace HT := Lib.hid (Blk.kp2 hka hkb (by first | omega | (simp; omega)) (by first | omega | (simp; omega)) HT.out))); (try (replace HR2 := Lib.hid (Blk.kp2 hka hkb (by first | omega | (simp; omega)) (by first | omega | (simp; omega)) HR2.out))); (try (replace HR3 := Lib.hid (Blk.kp2 hka hkb (by first | omega | (simp; omega)) (by first | omega | (simp; omega)) HR3.out))); (try replace HS := Lib.hid (Src.kpg2 HS.out (by repeat (with_reducible first | exact Below.refl _ _ | refine Bel.alloc ?_ _ | refine Below.drew ?_ | refine Bel.drewN ?_ _)) hkb (by first | omega | (simp; omega)))); replace HR1 := Lib.hid hBS; replace HK := Lib.hid (Kp.own hkb (by first | omega | (simp; omega)) (Kp.trans HK.out hka)); have hszS := hkb.size_; have hsyS := hka.size_; (try simp only [World.size_alloc, World.size_drew, World.heap_drewN, World.size_setCell] at hszS hsyS); clear hBS hka hkb hlSo; have hlSS := HS.out.lt
          refine hK.out _ _ (⟨HP.out, HQ.out, HT.out⟩) (fun hHeld => ?_)
          clear hK K
          try simp only [Act.put, List.setIfInBounds_toArray, List.set_cons_zero, List.set_cons_succ]
          refine wpAnyH_ready (rs := [4]) (by kernel_rfl) (by simp) ?_
          refine AllReadyH.cons rfl (fun K hK => ?_) AllReadyH.nil
          refine step_store_part 45 _ _ _ 0 (.agg #[.int .i64 x3, .int .i64 y3, .int .i64 z3]) #[.int .i64 x3, .int .i64 y3, .int .i64 z3] (Blk.kp (Kp.ka0 HK.out (by repeat (with_reducible first | exact Kp.refl _ _ | refine Kp.alloc _ ?_ | refine Kp.drew ?_ | refine Kp.drewN _ ?_))) (by first | omega | (simp; omega)) HR2.out) rfl rfl rfl rfl rfl (by rfl) (by kernel_rfl) (by simp [Value.oneCell']) (by simp) ?_; intro wS hBS hkb; simp only [setL, List.setIfInBounds_toArray, List.set_cons_zero, List.set_cons_succ] at hBS; have hka := Kp.ka HK.out hkb (by repeat (with_reducible first | exact Kp.refl _ _ | refine Kp.alloc _ ?_ | refine Kp.drew ?_ | refine Kp.drewN _ ?_)); have hlSo := HS.out.lt; (try (replace HP := Lib.hid (Blk.kp2 hka hkb (by first | omega | (simp; omega)) (by first | omega | (simp; omega)) HP.out))); (try (replace HQ := Lib.hid (Blk.kp2 hka hkb (by first | omega | (simp; omega)) (by first | omega | (simp; omega)) HQ.out))); (try (replace HT := Lib.hid (Blk.kp2 hka hkb (by first | omega | (simp; omega)) (by first | omega | (simp; omega)) HT.out))); (try (replace HR1 := Lib.hid (Blk.kp2 hka hkb (by first | omega | (simp; omega)) (by first | omega | (simp; omega)) HR1.out))); (try (replace HR3 := Lib.hid (Blk.kp2 hka hkb (by first | omega | (simp; omega)) (by first | omega | (simp; omega)) HR3.out))); (try replace HS := Lib.hid (Src.kpg2 HS.out (by repeat (with_reducible first | exact Below.refl _ _ | refine Bel.alloc ?_ _ | refine Below.drew ?_ | refine Bel.drewN ?_ _)) hkb (by first | omega | (simp; omega)))); replace HR2 := Lib.hid hBS; replace HK := Lib.hid (Kp.own hkb (by first | omega | (simp; omega)) (Kp.trans HK.out hka)); have hszS := hkb.size_; have hsyS := hka.size_; (try simp only [World.size_alloc, World.size_drew, World.heap_drewN, World.size_setCell] at hszS hsyS); clear hBS hka hkb hlSo; have hlSS := HS.out.lt
          refine hK.out _ _ (⟨HP.out, HQ.out, HT.out⟩) (fun hHeld => ?_)
          clear hK K
          try simp only [Act.put, List.setIfInBounds_toArray, List.set_cons_zero, List.set_cons_succ]
          refine wpAnyH_ready (rs := [5]) (by kernel_rfl) (by simp) ?_
          refine AllReadyH.cons rfl (fun K hK => ?_) AllReadyH.nil
          refine step_store_part 45 _ _ _ 0 (.agg #[.int .i64 xT, .int .i64 yT, .int .i64 zT]) #[.int .i64 xT, .int .i64 yT, .int .i64 zT] (Blk.kp (Kp.ka0 HK.out (by repeat (with_reducible first | exact Kp.refl _ _ | refine Kp.alloc _ ?_ | refine Kp.drew ?_ | refine Kp.drewN _ ?_))) (by first | omega | (simp; omega)) HR3.out) rfl rfl rfl rfl rfl (by rfl) (by kernel_rfl) (by simp [Value.oneCell']) (by simp) ?_; intro wS hBS hkb; simp only [setL, List.setIfInBounds_toArray, List.set_cons_zero, List.set_cons_succ] at hBS; have hka := Kp.ka HK.out hkb (by repeat (with_reducible first | exact Kp.refl _ _ | refine Kp.alloc _ ?_ | refine Kp.drew ?_ | refine Kp.drewN _ ?_)); have hlSo := HS.out.lt; (try (replace HP := Lib.hid (Blk.kp2 hka hkb (by first | omega | (simp; omega)) (by first | omega | (simp; omega)) HP.out))); (try (replace HQ := Lib.hid (Blk.kp2 hka hkb (by first | omega | (simp; omega)) (by first | omega | (simp; omega)) HQ.out))); (try (replace HT := Lib.hid (Blk.kp2 hka hkb (by first | omega | (simp; omega)) (by first | omega | (simp; omega)) HT.out))); (try (replace HR1 := Lib.hid (Blk.kp2 hka hkb (by first | omega | (simp; omega)) (by first | omega | (simp; omega)) HR1.out))); (try (replace HR2 := Lib.hid (Blk.kp2 hka hkb (by first | omega | (simp; omega)) (by first | omega | (simp; omega)) HR2.out))); (try replace HS := Lib.hid (Src.kpg2 HS.out (by repeat (with_reducible first | exact Below.refl _ _ | refine Bel.alloc ?_ _ | refine Below.drew ?_ | refine Bel.drewN ?_ _)) hkb (by first | omega | (simp; omega)))); replace HR3 := Lib.hid hBS; replace HK := Lib.hid (Kp.own hkb (by first | omega | (simp; omega)) (Kp.trans HK.out hka)); have hszS := hkb.size_; have hsyS := hka.size_; (try simp only [World.size_alloc, World.size_drew, World.heap_drewN, World.size_setCell] at hszS hsyS); clear hBS hka hkb hlSo; have hlSS := HS.out.lt
          refine hK.out _ _ (⟨HP.out, HQ.out, HT.out⟩) (fun hHeld => ?_)
          clear hK K
          try simp only [Act.put, List.setIfInBounds_toArray, List.set_cons_zero, List.set_cons_succ]
          refine wpAnyH_done (by kernel_rfl) ?_ _
          go_wp2
          exact bodyPost_ret (results_3 rfl (resF_cell HR1.out Try.underlying45 (by kernel_rfl) rfl) (resF_cell HR2.out Try.underlying45 (by kernel_rfl) rfl) (resF_cell HR3.out Try.underlying45 (by kernel_rfl) rfl)) rfl ⟨_, _, _, _, _, _, _, _, _, rfl, Kp.toBel HK.out (by omega)⟩
end Go.Proofs.Ythfphjbaglgacaa
