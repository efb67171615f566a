/- Chapter 25: projections, products, inverses. Conditions: as stated at each contract. -/
import Derived.Test.YtjhkpejejkkjlaaProg
import Derived.Test.YtjhkpejejkkjlaaBase
import Derived.Test.YtjhkpejejkkjlaaL01
import Derived.Test.YtjhkpejejkkjlaaCp
import Derived.Test.YtjhkpejejkkjlaaL25
import Derived.WalkKit
import Derived.WalkSpells
import Derived.WalkLawsBesides
import Derived.Lib.Hide
import Derived.Deep.QuietTactic
import Derived.BigQuiet
import Derived.Deep.Draws
import Derived.Deep.RegionHeld3
namespace Go.Proofs.Ytjhkpejejkkjlaa
open Go.RowKit
set_option linter.unusedVariables false

def vals3 (x y z : Int) : Bool := inB x (-1000000000000) 1000000000000 && inB y (-1000000000000) 1000000000000 && inB z (-1000000000000) 1000000000000
def mkC (x y z : Int) : Int := if vals3 x y z then redC x y z else 1
def mkV (x y z u : Int) : Int := if vals3 x y z then redV x y z u else 0
def noEnt (n : Int) : Bool := !inB n (-1000) 1000
def okEnt (m : List Int) : Bool := m.all fun n => inB n (-1000) 1000
theorem any_noEnt (m : List Int) : m.any noEnt = !okEnt m := by
  unfold okEnt
  induction m with
  | nil => rfl
  | cons p l ih => simp [List.any_cons, List.all_cons, ih, noEnt]
theorem okEnt_bd {m : List Int} (h : okEnt m = true) : ∀ i, -1000000 ≤ m.getD i 0 ∧ m.getD i 0 ≤ 1000000 := by
  intro i
  by_cases hi : i < m.length
  · rw [getD_at _ _ _ hi]
    unfold okEnt at h
    have := inB_iff.1 (List.all_eq_true.1 h _ (List.getElem_mem hi))
    omega
  · simp [List.getD, List.getElem?_eq_none (Nat.le_of_not_lt hi)]
/-- Is this a projection? -/
def isPr (m : List Int) : Bool := okEnt m && decide (m.length = 9) && decide (detV m ≠ 0)
theorem isPr_iff {m : List Int} (h : isPr m = true) : okEnt m = true ∧ m.length = 9 ∧ detV m ≠ 0 := by
  simp only [isPr, Bool.and_eq_true, decide_eq_true_eq] at h
  exact ⟨h.1.1, h.1.2, h.2⟩
theorem isPr_det {m : List Int} (h : okEnt m = true) (h9 : m.length = 9) : isPr m = (detV m != 0) := by
  rw [Bool.eq_iff_iff]; simp [isPr, h, h9]
theorem IsProjection_S (A : Option Addr) (c : Nat) (m : List Int) (hn : m.length ≤ 1048576) (w : World) (hA : Ints w A m) :
    Calls Try.prog 72 #[.slice A m.length c] w fun e w' => e = .returned (.bool (isPr m)) ∧ Below w.heap.size w w' := by
  go_enter Try.func72, Try.ntmps72
  go_wp2
  go_loop [3] (fun i => ∃ k : Nat, k ≤ m.length ∧ i = .int .i64 k ∧ Hid (idxF noEnt (m.drop k) k = idxF noEnt m 0)) (fun i => m.length - (intOf i).toNat)
  case atStart => exact ⟨0, Nat.zero_le _, rfl, rfl⟩
  case round =>
    obtain ⟨k, hk, rfl, H⟩ := hrel
    by_cases hlt : k < m.length
    · obtain ⟨b, o, rfl, hbb, hc⟩ := hA.at_ k hlt
      have hs := idxF_step noEnt m k hlt
      by_cases h1 : inB m[k] (-1000) 1000 = true
      · have HN : Hid (idxF noEnt (m.drop (k + 1)) (k + 1) = idxF noEnt m 0) := by
          rw [← H.out, hs, if_neg (by simp [noEnt, h1])]; rfl
        clear hs H
        go_wp2_with (first | (go_at_call 61; refine (l01In_c _ _ _ _).mono ?_; rintro e w' ⟨rfl, rfl⟩))
        go_round
        case rel => exact ⟨k + 1, by omega, by go_num, HN⟩
        case measure => simp [intOf]; omega
      · have HV := Lib.hid <| show isPr m = false from by
          have : m.any noEnt = true := by
            rw [← idxF_any noEnt m 0, ← H.out, hs, if_pos (by simp [noEnt, h1])]; simp
          rw [any_noEnt] at this
          simp at this
          simp [isPr, this]
        have h1' : inB m[k] (-1000) 1000 = false := by simpa using h1
        clear h1 hs H
        go_wp2_with (first | (go_at_call 61; refine (l01In_c _ _ _ _).mono ?_; rintro e w' ⟨rfl, rfl⟩))
        go_ret
        exact ⟨by rw [HV.out]; rfl, by repeat (with_reducible first | exact Below.refl _ _ | assumption | refine Bel.alloc ?_ _ | refine Bel.step (by assumption) ?_ | refine Below.drew ?_ | refine Bel.drewN ?_ _ | refine Below.setCell ?_ (by first | exact Nat.le_refl _ | omega | (simp; done) | (simp; omega)) _)⟩
    · obtain rfl : k = m.length := by omega
      have HO := Lib.hid <| show okEnt m = true from by
        have : m.any noEnt = false := by
          rw [← idxF_any noEnt m 0, ← H.out, idxF_end _ _ _ (Nat.le_refl _)]; simp
        rw [any_noEnt] at this
        simpa using this
      by_cases h9 : m.length = 9
      · have HB := okEnt_bd HO.out
        have e9 : ((m.length : Int) == 9) = true := by simp; omega
        have HV := Lib.hid <| show isPr m = (detV m != 0) from isPr_det HO.out h9
        have HM := Lib.hid h9
        have HB := Lib.hid HB
        have HI := Lib.hid hA
        clear h9 H
        go_wp2_with (first | (go_at_call 115; refine (l25Det_c _ _ _ _ HM.out (by first | rfl | exact HM.out) HB.out _ (by repeat (with_reducible first | exact HI.out | assumption | refine Ints.drew ?_ | refine Ints.drewN _ ?_ | refine Ints.alloc _ ?_ | refine Ints.step (by assumption) ?_))).mono ?_; rintro e w1 ⟨rfl, hb1⟩; obtain ⟨hc1, hf1, hz1⟩ := bel hb1; (try simp only [World.size_drew, World.cell?_drew, World.frozen?_drew] at hc1 hf1 hz1); (try simp only [World.heap_drewN, World.cell?_drewN, World.frozen?_drewN] at hc1 hf1 hz1); (try have hl1 : w.heap.size < w1.heap.size := by (have hq := hb1.size; (try simp at hq); omega)); (try have hm1 : w.heap.size + 1 < w1.heap.size := by (have hq := hb1.size; (try simp at hq); omega)); (try have hn1 : w.heap.size + 1 + 1 < w1.heap.size := by (have hq := hb1.size; (try simp at hq); omega)); (try have hp1 : b < w1.heap.size := by (have hq := hb1.size; (try simp at hq); omega)); (try have ho1 : b' < w1.heap.size := by (have hq := hb1.size; (try simp at hq); omega))))
        go_ret
        exact ⟨by rw [HV.out]; rfl, by repeat (with_reducible first | exact Below.refl _ _ | assumption | refine Bel.alloc ?_ _ | refine Bel.step (by assumption) ?_ | refine Below.drew ?_ | refine Bel.drewN ?_ _ | refine Below.setCell ?_ (by first | exact Nat.le_refl _ | omega | (simp; done) | (simp; omega)) _)⟩
      · have e9 : ((m.length : Int) == 9) = false := by simp; omega
        have HV := Lib.hid <| show isPr m = false from by simp [isPr, h9]
        go_wp2
        go_ret
        exact ⟨by rw [HV.out]; rfl, by repeat (with_reducible first | exact Below.refl _ _ | assumption | refine Bel.alloc ?_ _ | refine Bel.step (by assumption) ?_ | refine Below.drew ?_ | refine Bel.drewN ?_ _ | refine Below.setCell ?_ (by first | exact Nat.le_refl _ | omega | (simp; done) | (simp; omega)) _)⟩
theorem IsProjection1_c (a : Int) (w : World) :
    Calls Try.prog 118 #[.int .i64 a] w fun e w' => e = .returned (.bool (noEnt a)) ∧ w = w' := by
  go_enter Try.func118, Try.ntmps118
  go_wp2_with (first | (go_at_call 64; refine (within_c _ _ _ _).mono ?_; rintro e w' ⟨rfl, rfl⟩))
  go_ret
  exact ⟨rfl, rfl⟩
def noBig (n : Int) : Bool := !inB n (-1000000) 1000000
theorem index_noEnt_c (A : Option Addr) (c : Nat) (zs : List Int) (hn : zs.length ≤ 1048576) (w : World) (hA : Ints w A zs) :
    Calls Try.prog 143 #[.slice A zs.length c, .func (.func 118) #[] #[]] w fun e w' => e = .returned (.int .i64 (idxF noEnt zs 0)) ∧ w = w' := by
  go_enter Try.func143, Try.ntmps143
  go_wp2
  go_loop [5, 8] (fun _ i => ∃ k : Nat, k ≤ zs.length ∧ i = .int .i64 k ∧ Hid (idxF noEnt (zs.drop k) k = idxF noEnt zs 0)) (fun _ i => zs.length - (intOf i).toNat)
  case atStart => exact ⟨0, Nat.zero_le _, rfl, rfl⟩
  case round =>
    obtain ⟨k, hk, rfl, H⟩ := hrel
    by_cases hlt : k < zs.length
    · obtain ⟨b, o, rfl, hbb, hc⟩ := hA.at_ k hlt
      have hs := idxF_step noEnt zs k hlt
      by_cases h1 : noEnt zs[k] = true
      · have HV := Lib.hid <| show idxF noEnt zs 0 = k from by rw [← H.out, hs, if_pos h1]
        clear hs H
        go_wp2_with (first | (go_at_call 118; refine (IsProjection1_c _ _).mono ?_; rintro e w' ⟨rfl, rfl⟩))
        go_ret
        exact ⟨by rw [HV.out]; rfl, rfl⟩
      · have HN := Lib.hid <| show idxF noEnt (zs.drop (k + 1)) (k + 1) = idxF noEnt zs 0 from by rw [← H.out, hs, if_neg h1]
        have h1' : noEnt zs[k] = false := by simpa using h1
        clear hs H h1
        go_wp2_with (first | (go_at_call 118; refine (IsProjection1_c _ _).mono ?_; rintro e w' ⟨rfl, rfl⟩))
        go_round
        case rel => exact ⟨k + 1, by omega, by go_num, HN⟩
        case measure => simp [intOf]; omega
    · obtain rfl : k = zs.length := by omega
      have HV := Lib.hid <| show idxF noEnt zs 0 = -1 from by rw [← H.out, idxF_end _ _ _ (Nat.le_refl _)]
      clear H
      go_wp2
      go_ret
      exact ⟨by rw [HV.out]; rfl, rfl⟩
theorem contains_noEnt_c (A : Option Addr) (c : Nat) (zs : List Int) (hn : zs.length ≤ 1048576) (w : World) (hA : Ints w A zs) :
    Calls Try.prog 117 #[.slice A zs.length c, .func (.func 118) #[] #[]] w fun e w' => e = .returned (.bool (zs.any noEnt)) ∧ w = w' := by
  have H := Lib.hid (idxF_any noEnt zs 0)
  go_enter Try.func117, Try.ntmps117
  go_wp2_with fail
  go_at_call 143; refine (index_noEnt_c _ _ _ hn _ hA).mono ?_; rintro e w' ⟨rfl, rfl⟩
  go_wp2
  go_ret
  exact ⟨ret_bool (by rw [← H.out]), rfl⟩
theorem IsProjection_I (A : Option Addr) (c : Nat) (m : List Int) (hn : m.length ≤ 1048576) (w : World) (hA : Ints w A m) :
    Calls Try.prog 76 #[.slice A m.length c] w fun e w' => e = .returned (.bool (isPr m)) ∧ Below w.heap.size w w' := by
  by_cases h9 : m.length = 9
  · have b9 : ((m.length : Int) != 9) = false := by simp; omega
    by_cases he : okEnt m = true
    · have HV := Lib.hid <| isPr_det he h9
      have HB := Lib.hid (okEnt_bd he)
      have HM := Lib.hid h9
      have HI := Lib.hid hA
      have HE := Lib.hid <| show m.any noEnt = false from by rw [any_noEnt, he]; rfl
      clear h9 he
      go_enter Try.func76, Try.ntmps76
      go_wp2_with fail
      refine (contains_noEnt_c _ _ _ hn _ hA).mono ?_; rintro e w' ⟨rfl, rfl⟩
      rw [HE.out]
      go_wp2_with (first | (go_at_call 119; refine (determinant_c _ _ _ _ HM.out (by first | rfl | exact HM.out) HB.out _ (by repeat (with_reducible first | exact HI.out | assumption | refine Ints.drew ?_ | refine Ints.drewN _ ?_ | refine Ints.alloc _ ?_ | refine Ints.step (by assumption) ?_))).mono ?_; rintro e w1 ⟨rfl, hb1⟩; obtain ⟨hc1, hf1, hz1⟩ := bel hb1; (try simp only [World.size_drew, World.cell?_drew, World.frozen?_drew] at hc1 hf1 hz1); (try simp only [World.heap_drewN, World.cell?_drewN, World.frozen?_drewN] at hc1 hf1 hz1); (try have hl1 : w.heap.size < w1.heap.size := by (have hq := hb1.size; (try simp at hq); omega)); (try have hm1 : w.heap.size + 1 < w1.heap.size := by (have hq := hb1.size; (try simp at hq); omega)); (try have hn1 : w.heap.size + 1 + 1 < w1.heap.size := by (have hq := hb1.size; (try simp at hq); omega)); (try have hp1 : b < w1.heap.size := by (have hq := hb1.size; (try simp at hq); omega)); (try have ho1 : b' < w1.heap.size := by (have hq := hb1.size; (try simp at hq); omega))))
      go_ret
      exact ⟨by rw [HV.out]; rfl, by repeat (with_reducible first | exact Below.refl _ _ | assumption | refine Bel.alloc ?_ _ | refine Bel.step (by assumption) ?_ | refine Below.drew ?_ | refine Bel.drewN ?_ _ | refine Below.setCell ?_ (by first | exact Nat.le_refl _ | omega | (simp; done) | (simp; omega)) _)⟩
    · have he' : okEnt m = false := by simpa using he
      have HV := Lib.hid <| show isPr m = false from by simp [isPr, he']
      have HE := Lib.hid <| show m.any noEnt = true from by rw [any_noEnt, he']; rfl
      clear h9 he
      go_enter Try.func76, Try.ntmps76
      go_wp2_with fail
      refine (contains_noEnt_c _ _ _ hn _ hA).mono ?_; rintro e w' ⟨rfl, rfl⟩
      rw [HE.out]
      go_wp2
      go_ret
      exact ⟨by rw [HV.out]; rfl, by repeat (with_reducible first | exact Below.refl _ _ | assumption | refine Bel.alloc ?_ _ | refine Bel.step (by assumption) ?_ | refine Below.drew ?_ | refine Bel.drewN ?_ _ | refine Below.setCell ?_ (by first | exact Nat.le_refl _ | omega | (simp; done) | (simp; omega)) _)⟩
  · have b9 : ((m.length : Int) != 9) = true := by simp; omega
    have HV := Lib.hid <| show isPr m = false from by simp [isPr, h9]
    go_enter Try.func76, Try.ntmps76
    go_wp2
    go_ret
    exact ⟨by rw [HV.out]; rfl, by repeat (with_reducible first | exact Below.refl _ _ | assumption | refine Bel.alloc ?_ _ | refine Bel.step (by assumption) ?_ | refine Below.drew ?_ | refine Bel.drewN ?_ _ | refine Below.setCell ?_ (by first | exact Nat.le_refl _ | omega | (simp; done) | (simp; omega)) _)⟩
/-- A matrix, divided by the greatest common divisor of its entries. -/
def redM (m : List Int) : List Int := m.map fun x => x.tdiv (gcL m)
theorem redM_len (m : List Int) : (redM m).length = m.length := by simp [redM]
def lowC (m : List Int) : Int := if isPr (redM m) then 0 else 3
def lowL (m : List Int) : List Int := if isPr (redM m) then redM m else []
theorem redM_take (m : List Int) (k : Nat) (h : k < m.length) : (redM m).take (k + 1) = (redM m).take k ++ [m[k].tdiv (gcL m)] := by
  rw [List.take_succ_eq_append_getElem (by rw [redM_len]; exact h)]
  simp [redM]
theorem entry_bd {m : List Int} (hb : ∀ x ∈ m, -4000000000000000000 ≤ x ∧ x ≤ 4000000000000000000) (k : Nat) (h : k < m.length) : -4000000000000000000 ≤ m[k] ∧ m[k] ≤ 4000000000000000000 := hb _ (List.getElem_mem h)
end Go.Proofs.Ytjhkpejejkkjlaa
