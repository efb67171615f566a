/- Chapter 25: projections, products, inverses. Conditions: as stated at each contract. -/
import Derived.Test.YthfphjbaglgacaaProg
import Derived.Test.YthfphjbaglgacaaBase
import Derived.Test.YthfphjbaglgacaaL01
import Derived.Test.YthfphjbaglgacaaCp
import Derived.Test.YthfphjbaglgacaaL25
import Derived.WalkKit
import Derived.WalkSpells
import Derived.WalkLawsBesides
import Derived.Lib.Hide
import Derived.Deep.QuietTactic
import Derived.BigQuiet
import Derived.Deep.Draws
import Derived.Deep.RegionHeld3
namespace Go.Proofs.Ythfphjbaglgacaa
open Go.RowKit
set_option linter.unusedVariables false

def vals3 (x y z : Int) : Bool := inB x (-1000000000000) 1000000000000 && inB y (-1000000000000) 1000000000000 && inB z (-1000000000000) 1000000000000
def mkC (x y z : Int) : Int := if vals3 x y z then redC x y z else 1
def mkV (x y z u : Int) : Int := if vals3 x y z then redV x y z u else 0
theorem MakeRational_S (x y z : Int) (w : World) :
    Calls Try.prog 40 #[.int .i64 x, .int .i64 y, .int .i64 z] w fun e w' => e = .returned (.tuple #[.agg #[.int .i64 (mkV x y z x), .int .i64 (mkV x y z y), .int .i64 (mkV x y z z)], .int .i64 (mkC x y z)]) ∧ Below w.heap.size w w' := by
  by_cases h : vals3 x y z = true
  · have H := Lib.hid (show mkC x y z = redC x y z ∧ ∀ u, mkV x y z u = redV x y z u from ⟨by simp [mkC, h], fun u => by simp [mkV, h]⟩)
    simp only [vals3, Bool.and_eq_true] at h
    obtain ⟨⟨h1, h2⟩, h3⟩ := h
    obtain ⟨a1, a2⟩ := inB_iff.1 h1
    obtain ⟨a3, a4⟩ := inB_iff.1 h2
    obtain ⟨a5, a6⟩ := inB_iff.1 h3
    go_enter Try.func40, Try.ntmps40
    go_wp2_with (first | (go_at_call 106; refine (l01Is_c _ _).mono ?_; rintro e w' ⟨rfl, rfl⟩) | (go_at_call 94; refine (l25Make_c _ _ _ (by omega) (by omega) (by omega) (by omega) (by omega) (by omega) _).mono ?_; rintro e w1 ⟨rfl, hb1⟩; obtain ⟨hc1, hf1, hz1⟩ := bel hb1; (try simp only [World.size_drew, World.cell?_drew, World.frozen?_drew] at hc1 hf1 hz1); (try simp only [World.heap_drewN, World.cell?_drewN, World.frozen?_drewN] at hc1 hf1 hz1); (try have hl1 : w.heap.size < w1.heap.size := by (have hq := hb1.size; (try simp at hq); omega)); (try have hm1 : w.heap.size + 1 < w1.heap.size := by (have hq := hb1.size; (try simp at hq); omega)); (try have hn1 : w.heap.size + 1 + 1 < w1.heap.size := by (have hq := hb1.size; (try simp at hq); omega)); (try have hp1 : b < w1.heap.size := by (have hq := hb1.size; (try simp at hq); omega)); (try have ho1 : b' < w1.heap.size := by (have hq := hb1.size; (try simp at hq); omega))))
    have r0 : w1.cell? ⟨w.heap.size, 0, none⟩ = some (.int .i64 0) := by simp [go_sem, *]
    have r1 : w1.cell? ⟨w.heap.size, 1, none⟩ = some (.int .i64 0) := by simp [go_sem, *]
    have r2 : w1.cell? ⟨w.heap.size, 2, none⟩ = some (.int .i64 0) := by simp [go_sem, *]
    refine bodyPost_ret (v := .tuple #[.agg #[.int .i64 (redV x y z x), .int .i64 (redV x y z y), .int .i64 (redV x y z z)], .int .i64 (redC x y z)]) (by simp [results, Try.results40, go_sem, r0, r1, r2]) rfl ⟨by rw [H.out.1, H.out.2, H.out.2, H.out.2], by repeat (with_reducible first | exact Below.refl _ _ | assumption | refine Bel.alloc ?_ _ | refine Bel.step (by assumption) ?_ | refine Below.drew ?_ | refine Bel.drewN ?_ _ | refine Below.setCell ?_ (by first | exact Nat.le_refl _ | omega | (simp; done) | (simp; omega)) _)⟩
  · have h' : vals3 x y z = false := by simpa using h
    have H := Lib.hid (show mkC x y z = 1 ∧ ∀ u, mkV x y z u = 0 from ⟨by simp [mkC, h'], fun u => by simp [mkV, h']⟩)
    clear h
    by_cases h1 : inB x (-1000000000000) 1000000000000 = true
    · by_cases h2 : inB y (-1000000000000) 1000000000000 = true
      · have h3 : inB z (-1000000000000) 1000000000000 = false := by simpa [vals3, h1, h2] using h'
        clear h'
        go_enter Try.func40, Try.ntmps40
        go_wp2_with (first | (go_at_call 106; refine (l01Is_c _ _).mono ?_; rintro e w' ⟨rfl, rfl⟩))
        refine bodyPost_ret (v := .tuple #[.agg #[.int .i64 0, .int .i64 0, .int .i64 0], .int .i64 1]) (by simp [results, Try.results40, go_sem]) rfl ⟨by rw [H.out.1, H.out.2, H.out.2, H.out.2], by repeat (with_reducible first | exact Below.refl _ _ | assumption | refine Bel.alloc ?_ _ | refine Bel.step (by assumption) ?_ | refine Below.drew ?_ | refine Bel.drewN ?_ _ | refine Below.setCell ?_ (by first | exact Nat.le_refl _ | omega | (simp; done) | (simp; omega)) _)⟩
      · have h2' : inB y (-1000000000000) 1000000000000 = false := by simpa using h2
        clear h' h2
        go_enter Try.func40, Try.ntmps40
        go_wp2_with (first | (go_at_call 106; refine (l01Is_c _ _).mono ?_; rintro e w' ⟨rfl, rfl⟩))
        refine bodyPost_ret (v := .tuple #[.agg #[.int .i64 0, .int .i64 0, .int .i64 0], .int .i64 1]) (by simp [results, Try.results40, go_sem]) rfl ⟨by rw [H.out.1, H.out.2, H.out.2, H.out.2], by repeat (with_reducible first | exact Below.refl _ _ | assumption | refine Bel.alloc ?_ _ | refine Bel.step (by assumption) ?_ | refine Below.drew ?_ | refine Bel.drewN ?_ _ | refine Below.setCell ?_ (by first | exact Nat.le_refl _ | omega | (simp; done) | (simp; omega)) _)⟩
    · have h1' : inB x (-1000000000000) 1000000000000 = false := by simpa using h1
      clear h' h1
      go_enter Try.func40, Try.ntmps40
      go_wp2_with (first | (go_at_call 106; refine (l01Is_c _ _).mono ?_; rintro e w' ⟨rfl, rfl⟩))
      refine bodyPost_ret (v := .tuple #[.agg #[.int .i64 0, .int .i64 0, .int .i64 0], .int .i64 1]) (by simp [results, Try.results40, go_sem]) rfl ⟨by rw [H.out.1, H.out.2, H.out.2, H.out.2], by repeat (with_reducible first | exact Below.refl _ _ | assumption | refine Bel.alloc ?_ _ | refine Bel.step (by assumption) ?_ | refine Below.drew ?_ | refine Bel.drewN ?_ _ | refine Below.setCell ?_ (by first | exact Nat.le_refl _ | omega | (simp; done) | (simp; omega)) _)⟩
theorem MakeRational_I (x y z : Int) (w : World) :
    Calls Try.prog 39 #[.int .i64 x, .int .i64 y, .int .i64 z] w fun e w' => e = .returned (.tuple #[.agg #[.int .i64 (mkV x y z x), .int .i64 (mkV x y z y), .int .i64 (mkV x y z z)], .int .i64 (mkC x y z)]) ∧ Below w.heap.size w w' := by
  by_cases h : vals3 x y z = true
  · have H := Lib.hid (show mkC x y z = redC x y z ∧ ∀ u, mkV x y z u = redV x y z u from ⟨by simp [mkC, h], fun u => by simp [mkV, h]⟩)
    simp only [vals3, Bool.and_eq_true] at h
    obtain ⟨⟨h1, h2⟩, h3⟩ := h
    obtain ⟨a1, a2⟩ := inB_iff.1 h1
    obtain ⟨a3, a4⟩ := inB_iff.1 h2
    obtain ⟨a5, a6⟩ := inB_iff.1 h3
    go_enter Try.func39, Try.ntmps39
    go_wp2_with (first | (go_at_call 105; refine (isValue_c _ _).mono ?_; rintro e w' ⟨rfl, rfl⟩) | (go_at_call 91; refine (reduced_c _ _ _ (by omega) (by omega) (by omega) (by omega) (by omega) (by omega) _).mono ?_; rintro e w1 ⟨rfl, hb1⟩; obtain ⟨hc1, hf1, hz1⟩ := bel hb1; (try simp only [World.size_drew, World.cell?_drew, World.frozen?_drew] at hc1 hf1 hz1); (try simp only [World.heap_drewN, World.cell?_drewN, World.frozen?_drewN] at hc1 hf1 hz1); (try have hl1 : w.heap.size < w1.heap.size := by (have hq := hb1.size; (try simp at hq); omega)); (try have hm1 : w.heap.size + 1 < w1.heap.size := by (have hq := hb1.size; (try simp at hq); omega)); (try have hn1 : w.heap.size + 1 + 1 < w1.heap.size := by (have hq := hb1.size; (try simp at hq); omega)); (try have hp1 : b < w1.heap.size := by (have hq := hb1.size; (try simp at hq); omega)); (try have ho1 : b' < w1.heap.size := by (have hq := hb1.size; (try simp at hq); omega))))
    have r0 : w1.cell? ⟨w.heap.size, 0, none⟩ = some (.int .i64 0) := by simp [go_sem, *]
    have r1 : w1.cell? ⟨w.heap.size, 1, none⟩ = some (.int .i64 0) := by simp [go_sem, *]
    have r2 : w1.cell? ⟨w.heap.size, 2, none⟩ = some (.int .i64 0) := by simp [go_sem, *]
    refine bodyPost_ret (v := .tuple #[.agg #[.int .i64 (redV x y z x), .int .i64 (redV x y z y), .int .i64 (redV x y z z)], .int .i64 (redC x y z)]) (by simp [results, Try.results39, go_sem, r0, r1, r2]) rfl ⟨by rw [H.out.1, H.out.2, H.out.2, H.out.2], by repeat (with_reducible first | exact Below.refl _ _ | assumption | refine Bel.alloc ?_ _ | refine Bel.step (by assumption) ?_ | refine Below.drew ?_ | refine Bel.drewN ?_ _ | refine Below.setCell ?_ (by first | exact Nat.le_refl _ | omega | (simp; done) | (simp; omega)) _)⟩
  · have h' : vals3 x y z = false := by simpa using h
    have H := Lib.hid (show mkC x y z = 1 ∧ ∀ u, mkV x y z u = 0 from ⟨by simp [mkC, h'], fun u => by simp [mkV, h']⟩)
    clear h
    by_cases h1 : inB x (-1000000000000) 1000000000000 = true
    · by_cases h2 : inB y (-1000000000000) 1000000000000 = true
      · have h3 : inB z (-1000000000000) 1000000000000 = false := by simpa [vals3, h1, h2] using h'
        clear h'
        go_enter Try.func39, Try.ntmps39
        go_wp2_with (first | (go_at_call 105; refine (isValue_c _ _).mono ?_; rintro e w' ⟨rfl, rfl⟩))
        refine bodyPost_ret (v := .tuple #[.agg #[.int .i64 0, .int .i64 0, .int .i64 0], .int .i64 1]) (by simp [results, Try.results39, go_sem]) rfl ⟨by rw [H.out.1, H.out.2, H.out.2, H.out.2], by repeat (with_reducible first | exact Below.refl _ _ | assumption | refine Bel.alloc ?_ _ | refine Bel.step (by assumption) ?_ | refine Below.drew ?_ | refine Bel.drewN ?_ _ | refine Below.setCell ?_ (by first | exact Nat.le_refl _ | omega | (simp; done) | (simp; omega)) _)⟩
      · have h2' : inB y (-1000000000000) 1000000000000 = false := by simpa using h2
        clear h' h2
        go_enter Try.func39, Try.ntmps39
        go_wp2_with (first | (go_at_call 105; refine (isValue_c _ _).mono ?_; rintro e w' ⟨rfl, rfl⟩))
        refine bodyPost_ret (v := .tuple #[.agg #[.int .i64 0, .int .i64 0, .int .i64 0], .int .i64 1]) (by simp [results, Try.results39, go_sem]) rfl ⟨by rw [H.out.1, H.out.2, H.out.2, H.out.2], by repeat (with_reducible first | exact Below.refl _ _ | assumption | refine Bel.alloc ?_ _ | refine Bel.step (by assumption) ?_ | refine Below.drew ?_ | refine Bel.drewN ?_ _ | refine Below.setCell ?_ (by first | exact Nat.le_refl _ | omega | (simp; done) | (simp; omega)) _)⟩
    · have h1' : inB x (-1000000000000) 1000000000000 = false := by simpa using h1
      clear h' h1
      go_enter Try.func39, Try.ntmps39
      go_wp2_with (first | (go_at_call 105; refine (isValue_c _ _).mono ?_; rintro e w' ⟨rfl, rfl⟩))
      refine bodyPost_ret (v := .tuple #[.agg #[.int .i64 0, .int .i64 0, .int .i64 0], .int .i64 1]) (by simp [results, Try.results39, go_sem]) rfl ⟨by rw [H.out.1, H.out.2, H.out.2, H.out.2], by repeat (with_reducible first | exact Below.refl _ _ | assumption | refine Bel.alloc ?_ _ | refine Bel.step (by assumption) ?_ | refine Below.drew ?_ | refine Bel.drewN ?_ _ | refine Below.setCell ?_ (by first | exact Nat.le_refl _ | omega | (simp; done) | (simp; omega)) _)⟩
def noEnt (n : Int) : Bool := !inB n (-1000) 1000
def okEnt (m : List Int) : Bool := m.all fun n => inB n (-1000) 1000
theorem any_noEnt (m : List Int) : m.any noEnt = !okEnt m := by
  unfold okEnt
  induction m with
  | nil => rfl
  | cons p l ih => simp [List.any_cons, List.all_cons, ih, noEnt]
theorem okEnt_bd {m : List Int} (h : okEnt m = true) : ∀ i, -1000000 ≤ m.getD i 0 ∧ m.getD i 0 ≤ 1000000 := by
  intro i
  by_cases hi : i < m.length
  · rw [getD_at _ _ _ hi]
    unfold okEnt at h
    have := inB_iff.1 (List.all_eq_true.1 h _ (List.getElem_mem hi))
    omega
  · simp [List.getD, List.getElem?_eq_none (Nat.le_of_not_lt hi)]
/-- Is this a projection? -/
def isPr (m : List Int) : Bool := okEnt m && decide (m.length = 9) && decide (detV m ≠ 0)
theorem isPr_iff {m : List Int} (h : isPr m = true) : okEnt m = true ∧ m.length = 9 ∧ detV m ≠ 0 := by
  simp only [isPr, Bool.and_eq_true, decide_eq_true_eq] at h
  exact ⟨h.1.1, h.1.2, h.2⟩
theorem isPr_det {m : List Int} (h : okEnt m = true) (h9 : m.length = 9) : isPr m = (detV m != 0) := by
  rw [Bool.eq_iff_iff]; simp [isPr, h, h9]
theorem IsProjection_S (A : Option Addr) (c : Nat) (m : List Int) (hn : m.length ≤ 1048576) (w : World) (hA : Ints w A m) :
    Calls Try.prog 34 #[.slice A m.length c] w fun e w' => e = .returned (.bool (isPr m)) ∧ Below w.heap.size w w' := by
  go_enter Try.func34, Try.ntmps34
  go_wp2
  go_loop [3] (fun i => ∃ k : Nat, k ≤ m.length ∧ i = .int .i64 k ∧ Hid (idxF noEnt (m.drop k) k = idxF noEnt m 0)) (fun i => m.length - (intOf i).toNat)
  case atStart => exact ⟨0, Nat.zero_le _, rfl, rfl⟩
  case round =>
    obtain ⟨k, hk, rfl, H⟩ := hrel
    by_cases hlt : k < m.length
    · obtain ⟨b, o, rfl, hbb, hc⟩ := hA.at_ k hlt
      have hs := idxF_step noEnt m k hlt
      by_cases h1 : inB m[k] (-1000) 1000 = true
      · have HN : Hid (idxF noEnt (m.drop (k + 1)) (k + 1) = idxF noEnt m 0) := by
          rw [← H.out, hs, if_neg (by simp [noEnt, h1])]; rfl
        clear hs H
        go_wp2_with (first | (go_at_call 78; refine (l01In_c _ _ _ _).mono ?_; rintro e w' ⟨rfl, rfl⟩))
        go_round
        case rel => exact ⟨k + 1, by omega, by go_num, HN⟩
        case measure => simp [intOf]; omega
      · have HV := Lib.hid <| show isPr m = false from by
          have : m.any noEnt = true := by
            rw [← idxF_any noEnt m 0, ← H.out, hs, if_pos (by simp [noEnt, h1])]; simp
          rw [any_noEnt] at this
          simp at this
          simp [isPr, this]
        have h1' : inB m[k] (-1000) 1000 = false := by simpa using h1
        clear h1 hs H
        go_wp2_with (first | (go_at_call 78; refine (l01In_c _ _ _ _).mono ?_; rintro e w' ⟨rfl, rfl⟩))
        go_ret
        exact ⟨by rw [HV.out]; rfl, by repeat (with_reducible first | exact Below.refl _ _ | assumption | refine Bel.alloc ?_ _ | refine Bel.step (by assumption) ?_ | refine Below.drew ?_ | refine Bel.drewN ?_ _ | refine Below.setCell ?_ (by first | exact Nat.le_refl _ | omega | (simp; done) | (simp; omega)) _)⟩
    · obtain rfl : k = m.length := by omega
      have HO := Lib.hid <| show okEnt m = true from by
        have : m.any noEnt = false := by
          rw [← idxF_any noEnt m 0, ← H.out, idxF_end _ _ _ (Nat.le_refl _)]; simp
        rw [any_noEnt] at this
        simpa using this
      by_cases h9 : m.length = 9
      · have HB := okEnt_bd HO.out
        have e9 : ((m.length : Int) == 9) = true := by simp; omega
        have HV := Lib.hid <| show isPr m = (detV m != 0) from isPr_det HO.out h9
        have HM := Lib.hid h9
        have HB := Lib.hid HB
        have HI := Lib.hid hA
        clear h9 H
        go_wp2_with (first | (go_at_call 102; refine (l25Det_c _ _ _ _ HM.out (by first | rfl | exact HM.out) HB.out _ (by repeat (with_reducible first | exact HI.out | assumption | refine Ints.drew ?_ | refine Ints.drewN _ ?_ | refine Ints.alloc _ ?_ | refine Ints.step (by assumption) ?_))).mono ?_; rintro e w1 ⟨rfl, hb1⟩; obtain ⟨hc1, hf1, hz1⟩ := bel hb1; (try simp only [World.size_drew, World.cell?_drew, World.frozen?_drew] at hc1 hf1 hz1); (try simp only [World.heap_drewN, World.cell?_drewN, World.frozen?_drewN] at hc1 hf1 hz1); (try have hl1 : w.heap.size < w1.heap.size := by (have hq := hb1.size; (try simp at hq); omega)); (try have hm1 : w.heap.size + 1 < w1.heap.size := by (have hq := hb1.size; (try simp at hq); omega)); (try have hn1 : w.heap.size + 1 + 1 < w1.heap.size := by (have hq := hb1.size; (try simp at hq); omega)); (try have hp1 : b < w1.heap.size := by (have hq := hb1.size; (try simp at hq); omega)); (try have ho1 : b' < w1.heap.size := by (have hq := hb1.size; (try simp at hq); omega))))
        go_ret
        exact ⟨by rw [HV.out]; rfl, by repeat (with_reducible first | exact Below.refl _ _ | assumption | refine Bel.alloc ?_ _ | refine Bel.step (by assumption) ?_ | refine Below.drew ?_ | refine Bel.drewN ?_ _ | refine Below.setCell ?_ (by first | exact Nat.le_refl _ | omega | (simp; done) | (simp; omega)) _)⟩
      · have e9 : ((m.length : Int) == 9) = false := by simp; omega
        have HV := Lib.hid <| show isPr m = false from by simp [isPr, h9]
        go_wp2
        go_ret
        exact ⟨by rw [HV.out]; rfl, by repeat (with_reducible first | exact Below.refl _ _ | assumption | refine Bel.alloc ?_ _ | refine Bel.step (by assumption) ?_ | refine Below.drew ?_ | refine Bel.drewN ?_ _ | refine Below.setCell ?_ (by first | exact Nat.le_refl _ | omega | (simp; done) | (simp; omega)) _)⟩
theorem IsProjection1_c (a : Int) (w : World) :
    Calls Try.prog 103 #[.int .i64 a] w fun e w' => e = .returned (.bool (noEnt a)) ∧ w = w' := by
  go_enter Try.func103, Try.ntmps103
  go_wp2_with (first | (go_at_call 75; refine (within_c _ _ _ _).mono ?_; rintro e w' ⟨rfl, rfl⟩))
  go_ret
  exact ⟨rfl, rfl⟩
def noBig (n : Int) : Bool := !inB n (-1000000) 1000000
theorem RationalsInLine1_c (a : Int) (w : World) :
    Calls Try.prog 100 #[.int .i64 a] w fun e w' => e = .returned (.bool (noBig a)) ∧ w = w' := by
  go_enter Try.func100, Try.ntmps100
  go_wp2_with (first | (go_at_call 75; refine (within_c _ _ _ _).mono ?_; rintro e w' ⟨rfl, rfl⟩))
  go_ret
  exact ⟨rfl, rfl⟩
theorem index_noEnt_c (A : Option Addr) (c : Nat) (zs : List Int) (hn : zs.length ≤ 1048576) (w : World) (hA : Ints w A zs) :
    Calls Try.prog 153 #[.slice A zs.length c, .func (.func 103) #[] #[]] w fun e w' => e = .returned (.int .i64 (idxF noEnt zs 0)) ∧ w = w' := by
  go_enter Try.func153, Try.ntmps153
  go_wp2
  go_loop [5, 8] (fun _ i => ∃ k : Nat, k ≤ zs.length ∧ i = .int .i64 k ∧ Hid (idxF noEnt (zs.drop k) k = idxF noEnt zs 0)) (fun _ i => zs.length - (intOf i).toNat)
  case atStart => exact ⟨0, Nat.zero_le _, rfl, rfl⟩
  case round =>
    obtain ⟨k, hk, rfl, H⟩ := hrel
    by_cases hlt : k < zs.length
    · obtain ⟨b, o, rfl, hbb, hc⟩ := hA.at_ k hlt
      have hs := idxF_step noEnt zs k hlt
      by_cases h1 : noEnt zs[k] = true
      · have HV := Lib.hid <| show idxF noEnt zs 0 = k from by rw [← H.out, hs, if_pos h1]
        clear hs H
        go_wp2_with (first | (go_at_call 103; refine (IsProjection1_c _ _).mono ?_; rintro e w' ⟨rfl, rfl⟩))
        go_ret
        exact ⟨by rw [HV.out]; rfl, rfl⟩
      · have HN := Lib.hid <| show idxF noEnt (zs.drop (k + 1)) (k + 1) = idxF noEnt zs 0 from by rw [← H.out, hs, if_neg h1]
        have h1' : noEnt zs[k] = false := by simpa using h1
        clear hs H h1
        go_wp2_with (first | (go_at_call 103; refine (IsProjection1_c _ _).mono ?_; rintro e w' ⟨rfl, rfl⟩))
        go_round
        case rel => exact ⟨k + 1, by omega, by go_num, HN⟩
        case measure => simp [intOf]; omega
    · obtain rfl : k = zs.length := by omega
      have HV := Lib.hid <| show idxF noEnt zs 0 = -1 from by rw [← H.out, idxF_end _ _ _ (Nat.le_refl _)]
      clear H
      go_wp2
      go_ret
      exact ⟨by rw [HV.out]; rfl, rfl⟩
theorem contains_noEnt_c (A : Option Addr) (c : Nat) (zs : List Int) (hn : zs.length ≤ 1048576) (w : World) (hA : Ints w A zs) :
    Calls Try.prog 99 #[.slice A zs.length c, .func (.func 103) #[] #[]] w fun e w' => e = .returned (.bool (zs.any noEnt)) ∧ w = w' := by
  have H := Lib.hid (idxF_any noEnt zs 0)
  go_enter Try.func99, Try.ntmps99
  go_wp2_with fail
  go_at_call 153; refine (index_noEnt_c _ _ _ hn _ hA).mono ?_; rintro e w' ⟨rfl, rfl⟩
  go_wp2
  go_ret
  exact ⟨ret_bool (by rw [← H.out]), rfl⟩
theorem index_noBig_c (A : Option Addr) (c : Nat) (zs : List Int) (hn : zs.length ≤ 1048576) (w : World) (hA : Ints w A zs) :
    Calls Try.prog 153 #[.slice A zs.length c, .func (.func 100) #[] #[]] w fun e w' => e = .returned (.int .i64 (idxF noBig zs 0)) ∧ w = w' := by
  go_enter Try.func153, Try.ntmps153
  go_wp2
  go_loop [5, 8] (fun _ i => ∃ k : Nat, k ≤ zs.length ∧ i = .int .i64 k ∧ Hid (idxF noBig (zs.drop k) k = idxF noBig zs 0)) (fun _ i => zs.length - (intOf i).toNat)
  case atStart => exact ⟨0, Nat.zero_le _, rfl, rfl⟩
  case round =>
    obtain ⟨k, hk, rfl, H⟩ := hrel
    by_cases hlt : k < zs.length
    · obtain ⟨b, o, rfl, hbb, hc⟩ := hA.at_ k hlt
      have hs := idxF_step noBig zs k hlt
      by_cases h1 : noBig zs[k] = true
      · have HV := Lib.hid <| show idxF noBig zs 0 = k from by rw [← H.out, hs, if_pos h1]
        clear hs H
        go_wp2_with (first | (go_at_call 100; refine (RationalsInLine1_c _ _).mono ?_; rintro e w' ⟨rfl, rfl⟩))
        go_ret
        exact ⟨by rw [HV.out]; rfl, rfl⟩
      · have HN := Lib.hid <| show idxF noBig (zs.drop (k + 1)) (k + 1) = idxF noBig zs 0 from by rw [← H.out, hs, if_neg h1]
        have h1' : noBig zs[k] = false := by simpa using h1
        clear hs H h1
        go_wp2_with (first | (go_at_call 100; refine (RationalsInLine1_c _ _).mono ?_; rintro e w' ⟨rfl, rfl⟩))
        go_round
        case rel => exact ⟨k + 1, by omega, by go_num, HN⟩
        case measure => simp [intOf]; omega
    · obtain rfl : k = zs.length := by omega
      have HV := Lib.hid <| show idxF noBig zs 0 = -1 from by rw [← H.out, idxF_end _ _ _ (Nat.le_refl _)]
      clear H
      go_wp2
      go_ret
      exact ⟨by rw [HV.out]; rfl, rfl⟩
theorem contains_noBig_c (A : Option Addr) (c : Nat) (zs : List Int) (hn : zs.length ≤ 1048576) (w : World) (hA : Ints w A zs) :
    Calls Try.prog 99 #[.slice A zs.length c, .func (.func 100) #[] #[]] w fun e w' => e = .returned (.bool (zs.any noBig)) ∧ w = w' := by
  have H := Lib.hid (idxF_any noBig zs 0)
  go_enter Try.func99, Try.ntmps99
  go_wp2_with fail
  go_at_call 153; refine (index_noBig_c _ _ _ hn _ hA).mono ?_; rintro e w' ⟨rfl, rfl⟩
  go_wp2
  go_ret
  exact ⟨ret_bool (by rw [← H.out]), rfl⟩
theorem IsProjection_I (A : Option Addr) (c : Nat) (m : List Int) (hn : m.length ≤ 1048576) (w : World) (hA : Ints w A m) :
    Calls Try.prog 33 #[.slice A m.length c] w fun e w' => e = .returned (.bool (isPr m)) ∧ Below w.heap.size w w' := by
  by_cases h9 : m.length = 9
  · have b9 : ((m.length : Int) != 9) = false := by simp; omega
    by_cases he : okEnt m = true
    · have HV := Lib.hid <| isPr_det he h9
      have HB := Lib.hid (okEnt_bd he)
      have HM := Lib.hid h9
      have HI := Lib.hid hA
      have HE := Lib.hid <| show m.any noEnt = false from by rw [any_noEnt, he]; rfl
      clear h9 he
      go_enter Try.func33, Try.ntmps33
      go_wp2_with fail
      refine (contains_noEnt_c _ _ _ hn _ hA).mono ?_; rintro e w' ⟨rfl, rfl⟩
      rw [HE.out]
      go_wp2_with (first | (go_at_call 101; refine (determinant_c _ _ _ _ HM.out (by first | rfl | exact HM.out) HB.out _ (by repeat (with_reducible first | exact HI.out | assumption | refine Ints.drew ?_ | refine Ints.drewN _ ?_ | refine Ints.alloc _ ?_ | refine Ints.step (by assumption) ?_))).mono ?_; rintro e w1 ⟨rfl, hb1⟩; obtain ⟨hc1, hf1, hz1⟩ := bel hb1; (try simp only [World.size_drew, World.cell?_drew, World.frozen?_drew] at hc1 hf1 hz1); (try simp only [World.heap_drewN, World.cell?_drewN, World.frozen?_drewN] at hc1 hf1 hz1); (try have hl1 : w.heap.size < w1.heap.size := by (have hq := hb1.size; (try simp at hq); omega)); (try have hm1 : w.heap.size + 1 < w1.heap.size := by (have hq := hb1.size; (try simp at hq); omega)); (try have hn1 : w.heap.size + 1 + 1 < w1.heap.size := by (have hq := hb1.size; (try simp at hq); omega)); (try have hp1 : b < w1.heap.size := by (have hq := hb1.size; (try simp at hq); omega)); (try have ho1 : b' < w1.heap.size := by (have hq := hb1.size; (try simp at hq); omega))))
      go_ret
      exact ⟨by rw [HV.out]; rfl, by repeat (with_reducible first | exact Below.refl _ _ | assumption | refine Bel.alloc ?_ _ | refine Bel.step (by assumption) ?_ | refine Below.drew ?_ | refine Bel.drewN ?_ _ | refine Below.setCell ?_ (by first | exact Nat.le_refl _ | omega | (simp; done) | (simp; omega)) _)⟩
    · have he' : okEnt m = false := by simpa using he
      have HV := Lib.hid <| show isPr m = false from by simp [isPr, he']
      have HE := Lib.hid <| show m.any noEnt = true from by rw [any_noEnt, he']; rfl
      clear h9 he
      go_enter Try.func33, Try.ntmps33
      go_wp2_with fail
      refine (contains_noEnt_c _ _ _ hn _ hA).mono ?_; rintro e w' ⟨rfl, rfl⟩
      rw [HE.out]
      go_wp2
      go_ret
      exact ⟨by rw [HV.out]; rfl, by repeat (with_reducible first | exact Below.refl _ _ | assumption | refine Bel.alloc ?_ _ | refine Bel.step (by assumption) ?_ | refine Below.drew ?_ | refine Bel.drewN ?_ _ | refine Below.setCell ?_ (by first | exact Nat.le_refl _ | omega | (simp; done) | (simp; omega)) _)⟩
  · have b9 : ((m.length : Int) != 9) = true := by simp; omega
    have HV := Lib.hid <| show isPr m = false from by simp [isPr, h9]
    go_enter Try.func33, Try.ntmps33
    go_wp2
    go_ret
    exact ⟨by rw [HV.out]; rfl, by repeat (with_reducible first | exact Below.refl _ _ | assumption | refine Bel.alloc ?_ _ | refine Bel.step (by assumption) ?_ | refine Below.drew ?_ | refine Bel.drewN ?_ _ | refine Below.setCell ?_ (by first | exact Nat.le_refl _ | omega | (simp; done) | (simp; omega)) _)⟩
/-- A matrix, divided by the greatest common divisor of its entries. -/
def redM (m : List Int) : List Int := m.map fun x => x.tdiv (gcL m)
theorem redM_len (m : List Int) : (redM m).length = m.length := by simp [redM]
def lowC (m : List Int) : Int := if isPr (redM m) then 0 else 3
def lowL (m : List Int) : List Int := if isPr (redM m) then redM m else []
theorem redM_take (m : List Int) (k : Nat) (h : k < m.length) : (redM m).take (k + 1) = (redM m).take k ++ [m[k].tdiv (gcL m)] := by
  rw [List.take_succ_eq_append_getElem (by rw [redM_len]; exact h)]
  simp [redM]
theorem entry_bd {m : List Int} (hb : ∀ x ∈ m, -4000000000000000000 ≤ x ∧ x ≤ 4000000000000000000) (k : Nat) (h : k < m.length) : -4000000000000000000 ≤ m[k] ∧ m[k] ≤ 4000000000000000000 := hb _ (List.getElem_mem h)
theorem lowest_c (A : Option Addr) (c : Nat) (m : List Int) (h9 : m.length = 9) (hg : gcL m ≠ 0) (hb : ∀ x ∈ m, -4000000000000000000 ≤ x ∧ x ≤ 4000000000000000000) (w : World) (hA : Ints w A m) :
    Calls Try.prog 96 #[.slice A 9 c] w fun e w' => ∃ v, e = .returned (.tuple #[v, .int .i64 (lowC m)]) ∧ Own w' w.heap.size 2 v (lowL m) ∧ Below w.heap.size w w' := by
  obtain ⟨g1, g2⟩ := gcL_bd m 4000000000000000000 (by omega) hb 9
  rw [List.take_of_length_le (by omega)] at g1 g2
  have HB := Lib.hid hb
  have H9 := Lib.hid h9
  have hm9 : m.length ≤ 9 := by omega
  clear hb
  go_enter Try.func96, Try.ntmps96
  go_wp2_with fail
  rw [← h9]
  refine (toB (commonOf_c A c m (by omega) HB.out _ hA)).mono ?_; rintro e w1 ⟨rfl, hb1⟩
  have hA1 := Ints.step hb1 hA
  obtain ⟨hc1, hf1, hz1⟩ := bel hb1
  clear h9
  go_wp2_with fail
  go_loopw [5, 7, 13] (fun v _ i wr => ∃ k : Nat, k ≤ m.length ∧ i = .int .i64 k ∧ Own wr w.heap.size 2 v ((redM m).take k) ∧ Below w.heap.size w wr) (fun _ _ i _ => m.length - (intOf i).toNat)
  case atStart => exact ⟨0, Nat.zero_le _, rfl, Own.new _ _ _ hb1.size, by repeat (with_reducible first | exact Below.refl _ _ | assumption | refine Bel.alloc ?_ _ | refine Bel.step (by assumption) ?_ | refine Below.drew ?_ | refine Bel.drewN ?_ _ | refine Below.setCell ?_ (by first | exact Nat.le_refl _ | omega | (simp; done) | (simp; omega)) _)⟩
  case round =>
    obtain ⟨k, hk, rfl, hO, hbel⟩ := hrel
    have hA2 := Ints.step hbel hA
    have hs := hbel.size
    by_cases hlt : k < m.length
    · obtain ⟨b, o, rfl, hbb, hc⟩ := hA2.at_ k hlt
      obtain ⟨x1, x2⟩ := entry_bd HB.out k hlt
      obtain ⟨t1, t2⟩ := tdiv_bd m[k] (gcL m) 4000000000000000000 x1 x2
      have hR := Lib.hid (redM_take m k hlt)
      have hl9 : ((redM m).take k).length ≤ 9 := by rw [List.length_take, redM_len, H9.out]; omega
      go_wp2_with (at_builtin; refine wpList_app1 rfl _ _ 43 rfl w.heap.size 2 Try.underlying43 info64 _ _ (m[k].tdiv (gcL m)) rfl (Own.alloc _ hO) wr.heap.size rfl (by simp) (by omega) (by simp; omega) ?_; intro v1 w2 hO1 hb2)
      go_roundw
      case rel =>
        have hRR : ∃ l' : Nat, l' ≤ m.length ∧ Value.int .i64 (k + 1) = .int .i64 l' ∧ Own w2 w.heap.size 2 v1 ((redM m).take l') ∧ Below w.heap.size w w2 := ⟨k + 1, by omega, by go_num, by rw [hR.out]; exact hO1, hbel.trans ((Below.alloc (Below.refl _ _) hbel.size _).trans hb2)⟩
        first | exact hRR | ((repeat apply Exists.intro); exact ⟨hRR, rfl⟩)
      case measure => simp [intOf]; omega
    · obtain rfl : k = m.length := by omega
      rw [List.take_of_length_le (by rw [redM_len]; exact Nat.le_refl _)] at hO
      obtain ⟨A', c', rfl, hcc, hcm, hI, hF⟩ := hO.form
      have hl9 : (redM m).length ≤ 9 := by rw [redM_len, H9.out]; omega
      have HO := Lib.hid hO
      by_cases hp : isPr (redM m) = true
      · have HV := Lib.hid <| show lowC m = 0 ∧ lowL m = redM m from by simp [lowC, lowL, hp]
        have HI := Lib.hid hI
        clear hI hF hO
        go_wp2_with fail
        go_at_call 33; refine (IsProjection_I _ _ _ (by omega) _ HI.out).mono ?_; rintro e w1 ⟨rfl, hb1⟩; obtain ⟨hc1, hf1, hz1⟩ := bel hb1; (try simp only [World.size_drew, World.cell?_drew, World.frozen?_drew] at hc1 hf1 hz1); (try simp only [World.heap_drewN, World.cell?_drewN, World.frozen?_drewN] at hc1 hf1 hz1); (try have hl1 : w.heap.size < w1.heap.size := by (have hq := hb1.size; (try simp at hq); omega)); (try have hm1 : w.heap.size + 1 < w1.heap.size := by (have hq := hb1.size; (try simp at hq); omega)); (try have hn1 : w.heap.size + 1 + 1 < w1.heap.size := by (have hq := hb1.size; (try simp at hq); omega)); (try have hp1 : b < w1.heap.size := by (have hq := hb1.size; (try simp at hq); omega)); (try have ho1 : b' < w1.heap.size := by (have hq := hb1.size; (try simp at hq); omega))
        go_wp2
        refine bodyPost_ret (v := .tuple #[.slice A' (redM m).length c', .int .i64 0]) (by simp [results, Try.results96, go_sem]) rfl ⟨_, by rw [HV.out.1], ?_, by repeat (with_reducible first | exact Below.refl _ _ | assumption | refine Bel.alloc ?_ _ | refine Bel.step (by assumption) ?_ | refine Below.drew ?_ | refine Bel.drewN ?_ _ | refine Below.setCell ?_ (by first | exact Nat.le_refl _ | omega | (simp; done) | (simp; omega)) _)⟩
        rw [HV.out.2]
        exact Own.step (by assumption) HO.out
      · have hp' : isPr (redM m) = false := by simpa using hp
        have HV := Lib.hid <| show lowC m = 3 ∧ lowL m = [] from by simp [lowC, lowL, hp']
        have HI := Lib.hid hI
        clear hI hF hO hp
        go_wp2_with fail
        go_at_call 33; refine (IsProjection_I _ _ _ (by omega) _ HI.out).mono ?_; rintro e w2 ⟨rfl, hb2⟩; obtain ⟨hc2, hf2, hz2⟩ := bel hb2; (try simp only [World.size_drew, World.cell?_drew, World.frozen?_drew] at hc2 hf2 hz2); (try simp only [World.heap_drewN, World.cell?_drewN, World.frozen?_drewN] at hc2 hf2 hz2); (try have hl2 : w.heap.size < w2.heap.size := by (have hq := hb2.size; (try simp at hq); omega)); (try have hm2 : w.heap.size + 1 < w2.heap.size := by (have hq := hb2.size; (try simp at hq); omega)); (try have hn2 : w.heap.size + 1 + 1 < w2.heap.size := by (have hq := hb2.size; (try simp at hq); omega)); (try have hp2 : b < w2.heap.size := by (have hq := hb2.size; (try simp at hq); omega)); (try have ho2 : b' < w2.heap.size := by (have hq := hb2.size; (try simp at hq); omega))
        go_wp2
        refine bodyPost_ret (v := .tuple #[.slice none 0 0, .int .i64 3]) (by simp [results, Try.results96, go_sem]) rfl ⟨_, by rw [HV.out.1], ?_, by repeat (with_reducible first | exact Below.refl _ _ | assumption | refine Bel.alloc ?_ _ | refine Bel.step (by assumption) ?_ | refine Below.drew ?_ | refine Bel.drewN ?_ _ | refine Below.setCell ?_ (by first | exact Nat.le_refl _ | omega | (simp; done) | (simp; omega)) _)⟩
        rw [HV.out.2]
        exact Own.nil _ _ _
end Go.Proofs.Ythfphjbaglgacaa
