/- Chapter 22: points in range. Conditions: as stated at each contract. -/
import Derived.Test.YthfphjbaglgacaaProg
import Derived.Test.YthfphjbaglgacaaBase
import Derived.Test.YthfphjbaglgacaaL01
import Derived.Test.YthfphjbaglgacaaCp
import Derived.WalkKit
import Derived.WalkSpells
import Derived.WalkLawsBesides
import Derived.Lib.Hide
namespace Go.Proofs.Ythfphjbaglgacaa
open Go.RowKit
set_option linter.unusedVariables false
def okP (p : Int × Int) : Bool := inB p.1 (-100000) 100000 && inB p.2 (-100000) 100000
def okPs (ps : List (Int × Int)) : Bool := ps.all okP
theorem okPs_step {ps : List (Int × Int)} {k : Nat} (hk : k < ps.length) (h : okPs (ps.take k) = true) (hp : okP ps[k] = true) : okPs (ps.take (k + 1)) = true := by
  unfold okPs at *
  rw [List.take_succ_eq_append_getElem hk, List.all_append, h]; simp [hp]
theorem okPs_no {ps : List (Int × Int)} {k : Nat} (hk : k < ps.length) (hp : okP ps[k] = false) : okPs ps = false := by
  unfold okPs
  rw [List.all_eq_false]
  exact ⟨_, List.getElem_mem hk, by simp [hp]⟩
theorem isPlace_c (n : Int) (w : World) :
    Calls Try.prog 154 #[.int .i64 n] w fun e w' => e = .returned (.bool (inB n (-100000) 100000)) ∧ w = w' := by
  go_enter Try.func154, Try.ntmps154
  go_wp2_with (first | (go_at_call 75; refine (within_c _ _ _ _).mono ?_; rintro e w' ⟨rfl, rfl⟩))
  go_ret
  exact ⟨rfl, rfl⟩
theorem l22Place_c (n : Int) (w : World) :
    Calls Try.prog 155 #[.int .i64 n] w fun e w' => e = .returned (.bool (inB n (-100000) 100000)) ∧ w = w' := by
  go_enter Try.func155, Try.ntmps155
  go_wp2_with (first | (go_at_call 78; refine (l01In_c _ _ _ _).mono ?_; rintro e w' ⟨rfl, rfl⟩))
  go_ret
  exact ⟨rfl, rfl⟩
theorem l22Points_c (A : Option Addr) (c : Nat) (ps : List (Int × Int)) (hn : ps.length ≤ 1048576) (w : World) (hA : Prs w A ps) :
    Calls Try.prog 110 #[.slice A ps.length c] w fun e w' => e = .returned (.bool (okPs ps)) ∧ Below w.heap.size w w' := by
  go_enter Try.func110, Try.ntmps110
  go_wp2
  go_loopw [3] (fun i wr => ∃ k : Nat, k ≤ ps.length ∧ i = .int .i64 k ∧ okPs (ps.take k) = true ∧ Below w.heap.size w wr) (fun i _ => ps.length - (intOf i).toNat)
  case atStart => exact ⟨0, Nat.zero_le _, rfl, rfl, Below.refl _ _⟩
  case round =>
    obtain ⟨k, hk, rfl, hok, hbel⟩ := hrel
    by_cases hlt : k < ps.length
    · obtain ⟨b, o, rfl, hbb, hc1, hc2⟩ := (Prs.step hbel hA).at_ k hlt
      obtain ⟨x, hx⟩ : ∃ x, x = ps[k].1 := ⟨_, rfl⟩
      obtain ⟨y, hy⟩ : ∃ y, y = ps[k].2 := ⟨_, rfl⟩
      rw [← hx] at hc1
      rw [← hy] at hc2
      have hs := hbel.size
      by_cases h1 : inB x (-100000) 100000 = true
      · by_cases h2 : inB y (-100000) 100000 = true
        · have HS := Lib.hid (okPs_step hlt hok (by rw [okP, ← hx, ← hy, h1, h2]; rfl))
          clear hx hy hok
          go_wp2_with (first | (go_at_call 155; refine (l22Place_c _ _).mono ?_; rintro e w' ⟨rfl, rfl⟩))
          go_roundw
          case rel => exact ⟨k + 1, by omega, by go_num, HS.out, by repeat (with_reducible first | exact Below.refl _ _ | assumption | refine Bel.alloc ?_ _ | refine Bel.step (by assumption) ?_ | refine Below.drew ?_ | refine Bel.drewN ?_ _ | refine Below.setCell ?_ (by first | exact Nat.le_refl _ | omega | (simp; done) | (simp; omega)) _)⟩
          case measure => simp [intOf]; omega
        · have h2' : inB y (-100000) 100000 = false := by simpa using h2
          have HF := Lib.hid (okPs_no hlt (by rw [okP, ← hx, ← hy, h1, h2']; rfl))
          clear hx hy hok h2
          go_wp2_with (first | (go_at_call 155; refine (l22Place_c _ _).mono ?_; rintro e w' ⟨rfl, rfl⟩))
          go_ret
          exact ⟨by rw [HF.out]; rfl, by repeat (with_reducible first | exact Below.refl _ _ | assumption | refine Bel.alloc ?_ _ | refine Bel.step (by assumption) ?_ | refine Below.drew ?_ | refine Bel.drewN ?_ _ | refine Below.setCell ?_ (by first | exact Nat.le_refl _ | omega | (simp; done) | (simp; omega)) _)⟩
      · have h1' : inB x (-100000) 100000 = false := by simpa using h1
        have HF := Lib.hid (okPs_no hlt (by rw [okP, ← hx, ← hy, h1']; rfl))
        clear hx hy hok h1
        go_wp2_with (first | (go_at_call 155; refine (l22Place_c _ _).mono ?_; rintro e w' ⟨rfl, rfl⟩))
        go_ret
        exact ⟨by rw [HF.out]; rfl, by repeat (with_reducible first | exact Below.refl _ _ | assumption | refine Bel.alloc ?_ _ | refine Bel.step (by assumption) ?_ | refine Below.drew ?_ | refine Bel.drewN ?_ _ | refine Below.setCell ?_ (by first | exact Nat.le_refl _ | omega | (simp; done) | (simp; omega)) _)⟩
    · obtain rfl : k = ps.length := by omega
      rw [List.take_length] at hok
      have HF := Lib.hid hok
      clear hok
      go_wp2
      go_ret
      exact ⟨by rw [HF.out]; rfl, by repeat (with_reducible first | exact Below.refl _ _ | assumption | refine Bel.alloc ?_ _ | refine Bel.step (by assumption) ?_ | refine Below.drew ?_ | refine Bel.drewN ?_ _ | refine Below.setCell ?_ (by first | exact Nat.le_refl _ | omega | (simp; done) | (simp; omega)) _)⟩
theorem arePoints_c (A : Option Addr) (c : Nat) (ps : List (Int × Int)) (hn : ps.length ≤ 1048576) (w : World) (hA : Prs w A ps) :
    Calls Try.prog 108 #[.slice A ps.length c] w fun e w' => e = .returned (.bool (okPs ps)) ∧ Below w.heap.size w w' := by
  go_enter Try.func108, Try.ntmps108
  go_wp2
  go_loopw [4,7] (fun _(i) wr => ∃ k : Nat, k ≤ ps.length ∧ i = .int .i64 k ∧ okPs (ps.take k) = true ∧ Below w.heap.size w wr) (fun _(i) _ => ps.length - (intOf i).toNat)
  case atStart => exact ⟨0, Nat.zero_le _, rfl, rfl, Below.refl _ _⟩
  case round =>
    obtain ⟨k, hk, rfl, hok, hbel⟩ := hrel
    by_cases hlt : k < ps.length
    · obtain ⟨b, o, rfl, hbb, hc1, hc2⟩ := (Prs.step hbel hA).at_ k hlt
      obtain ⟨x, hx⟩ : ∃ x, x = ps[k].1 := ⟨_, rfl⟩
      obtain ⟨y, hy⟩ : ∃ y, y = ps[k].2 := ⟨_, rfl⟩
      rw [← hx] at hc1
      rw [← hy] at hc2
      have hs := hbel.size
      by_cases h1 : inB x (-100000) 100000 = true
      · by_cases h2 : inB y (-100000) 100000 = true
        · have HS := Lib.hid (okPs_step hlt hok (by rw [okP, ← hx, ← hy, h1, h2]; rfl))
          clear hx hy hok
          go_wp2_with (first | (go_at_call 154; refine (isPlace_c _ _).mono ?_; rintro e w' ⟨rfl, rfl⟩))
          go_roundw
          case rel => exact ⟨k + 1, by omega, by go_num, HS.out, by repeat (with_reducible first | exact Below.refl _ _ | assumption | refine Bel.alloc ?_ _ | refine Bel.step (by assumption) ?_ | refine Below.drew ?_ | refine Bel.drewN ?_ _ | refine Below.setCell ?_ (by first | exact Nat.le_refl _ | omega | (simp; done) | (simp; omega)) _)⟩
          case measure => simp [intOf]; omega
        · have h2' : inB y (-100000) 100000 = false := by simpa using h2
          have HF := Lib.hid (okPs_no hlt (by rw [okP, ← hx, ← hy, h1, h2']; rfl))
          clear hx hy hok h2
          go_wp2_with (first | (go_at_call 154; refine (isPlace_c _ _).mono ?_; rintro e w' ⟨rfl, rfl⟩))
          go_ret
          exact ⟨by rw [HF.out]; rfl, by repeat (with_reducible first | exact Below.refl _ _ | assumption | refine Bel.alloc ?_ _ | refine Bel.step (by assumption) ?_ | refine Below.drew ?_ | refine Bel.drewN ?_ _ | refine Below.setCell ?_ (by first | exact Nat.le_refl _ | omega | (simp; done) | (simp; omega)) _)⟩
      · have h1' : inB x (-100000) 100000 = false := by simpa using h1
        have HF := Lib.hid (okPs_no hlt (by rw [okP, ← hx, ← hy, h1']; rfl))
        clear hx hy hok h1
        go_wp2_with (first | (go_at_call 154; refine (isPlace_c _ _).mono ?_; rintro e w' ⟨rfl, rfl⟩))
        go_ret
        exact ⟨by rw [HF.out]; rfl, by repeat (with_reducible first | exact Below.refl _ _ | assumption | refine Bel.alloc ?_ _ | refine Bel.step (by assumption) ?_ | refine Below.drew ?_ | refine Bel.drewN ?_ _ | refine Below.setCell ?_ (by first | exact Nat.le_refl _ | omega | (simp; done) | (simp; omega)) _)⟩
    · obtain rfl : k = ps.length := by omega
      rw [List.take_length] at hok
      have HF := Lib.hid hok
      clear hok
      go_wp2
      go_ret
      exact ⟨by rw [HF.out]; rfl, by repeat (with_reducible first | exact Below.refl _ _ | assumption | refine Bel.alloc ?_ _ | refine Bel.step (by assumption) ?_ | refine Below.drew ?_ | refine Bel.drewN ?_ _ | refine Below.setCell ?_ (by first | exact Nat.le_refl _ | omega | (simp; done) | (simp; omega)) _)⟩
end Go.Proofs.Ythfphjbaglgacaa
