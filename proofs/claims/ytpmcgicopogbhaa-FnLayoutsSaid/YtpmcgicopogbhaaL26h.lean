/- Chapter 26: the greatest and the least of a list; the heights of a layout. Conditions: as stated at each contract. -/
import Derived.Test.YtpmcgicopogbhaaProg
import Derived.Test.YtpmcgicopogbhaaBase
import Derived.Test.YtpmcgicopogbhaaRw
import Derived.Test.YtpmcgicopogbhaaL01
import Derived.Test.YtpmcgicopogbhaaCp
import Derived.Test.YtpmcgicopogbhaaL18
import Derived.Test.YtpmcgicopogbhaaL23
import Derived.Test.YtpmcgicopogbhaaL03
import Derived.Test.YtpmcgicopogbhaaL04
import Derived.Test.YtpmcgicopogbhaaL23d
import Derived.Test.YtpmcgicopogbhaaL23e
import Derived.Test.YtpmcgicopogbhaaL23f
import Derived.Test.YtpmcgicopogbhaaL24
import Derived.Test.YtpmcgicopogbhaaL24b
import Derived.Test.YtpmcgicopogbhaaL24c
import Derived.Test.YtpmcgicopogbhaaL24d
import Derived.Test.YtpmcgicopogbhaaL24f
import Derived.Test.YtpmcgicopogbhaaL24g
import Derived.Test.YtpmcgicopogbhaaL24r
import Derived.Test.YtpmcgicopogbhaaL23g
import Derived.Test.YtpmcgicopogbhaaL23h
import Derived.Test.YtpmcgicopogbhaaL26a
import Derived.Test.YtpmcgicopogbhaaL26b
import Derived.WalkKit
import Derived.WalkSpells
import Derived.WalkLawsBesides
import Derived.Lib.Hide
import Derived.Deep.QuietTactic
import Derived.BigQuiet
import Derived.Deep.Draws
import Derived.Deep.RegionHeld3
namespace Go.Proofs.Ytpmcgicopogbhaa
open Go.RowKit
set_option linter.unusedVariables false
set_option linter.unusedSimpArgs false
def mxP (l : List Int) : Nat → Int
  | 0 => l.getD 0 0
  | k + 1 => mx (mxP l k) (l.getD k 0)
def mnP (l : List Int) : Nat → Int
  | 0 => l.getD 0 0
  | k + 1 => mn (mnP l k) (l.getD k 0)
theorem mxP_1 (l : List Int) : mxP l 1 = l.getD 0 0 := by simp [mxP, mx]
theorem mnP_1 (l : List Int) : mnP l 1 = l.getD 0 0 := by simp [mnP, mn]
theorem mxP_bd {l : List Int} {a b : Int} (h : ∀ x ∈ l, a ≤ x ∧ x ≤ b) (h0 : 0 < l.length) (k : Nat) (hk : k ≤ l.length) : a ≤ mxP l k ∧ mxP l k ≤ b := by
  have hg : ∀ j, j < l.length → a ≤ l.getD j 0 ∧ l.getD j 0 ≤ b := fun j hj => by
    have := h _ (List.getElem_mem hj)
    rw [List.getD_eq_getElem?_getD, List.getElem?_eq_getElem hj]; exact this
  induction k with
  | zero => exact hg 0 h0
  | succ k ih =>
    have h1 := ih (by omega)
    have h2 := hg k (by omega)
    unfold mxP mx
    split <;> omega
theorem mnP_bd {l : List Int} {a b : Int} (h : ∀ x ∈ l, a ≤ x ∧ x ≤ b) (h0 : 0 < l.length) (k : Nat) (hk : k ≤ l.length) : a ≤ mnP l k ∧ mnP l k ≤ b := by
  have hg : ∀ j, j < l.length → a ≤ l.getD j 0 ∧ l.getD j 0 ≤ b := fun j hj => by
    have := h _ (List.getElem_mem hj)
    rw [List.getD_eq_getElem?_getD, List.getElem?_eq_getElem hj]; exact this
  induction k with
  | zero => exact hg 0 h0
  | succ k ih =>
    have h1 := ih (by omega)
    have h2 := hg k (by omega)
    unfold mnP mn
    split <;> omega
set_option maxRecDepth 50000 in
theorem slicesMax_c (A : Option Addr) (c : Nat) (zs : List Int) (h0 : 0 < zs.length) (hn : zs.length ≤ 1048576) (w : World) (hA : Ints w A zs) :
    Calls Try.prog 205 #[.slice A zs.length c] w fun e w' => e = .returned (.int .i64 (mxP zs zs.length)) ∧ Below w.heap.size w w' := by
  have HZ := Lib.hid (show mxP zs 1 = zs[0] by rw [mxP_1, List.getD_eq_getElem?_getD, List.getElem?_eq_getElem h0]; rfl)
  obtain ⟨b, o, e, hbb, hc⟩ := hA.at_ 0 h0
  rw [Nat.add_zero] at hc
  generalize zs[0] = z0 at HZ hc
  have HI := Lib.hid hA
  clear hA
  subst e
  go_enter Try.func205, Try.ntmps205
  go_wp2
  go_loopw [3, 4] (fun m i wr => ∃ k : Nat, 1 ≤ k ∧ k ≤ zs.length ∧ i = .int .i64 k ∧ m = .int .i64 (mxP zs k) ∧ Below w.heap.size w wr) (fun _ i _ => zs.length - (intOf i).toNat)
  case atStart => exact ⟨1, by omega, h0, rfl, by rw [HZ.out], by repeat (with_reducible first | exact Below.refl _ _ | assumption | refine Bel.alloc ?_ _ | refine Bel.step (by assumption) ?_ | refine Below.drew ?_ | refine Bel.drewN ?_ _ | refine Below.setCell ?_ (by first | exact Nat.le_refl _ | omega | (simp; done) | (simp; omega)) _)⟩
  case round =>
    obtain ⟨k, hk1, hk, rfl, rfl, hbel⟩ := hrel
    by_cases hlt : k < zs.length
    · obtain ⟨b', o', e, hbb', hck⟩ := (Ints.step hbel HI.out).at_ k hlt
      cases e
      have HS := Lib.hid (show mxP zs (k + 1) = mx (mxP zs k) zs[k] by rw [show zs[k] = zs.getD k 0 by rw [List.getD_eq_getElem?_getD, List.getElem?_eq_getElem hlt]; rfl]; rfl)
      generalize zs[k] = z at HS hck
      generalize mxP zs k = m at HS ⊢
      go_wp2
      go_roundw
      case rel => exact ⟨k + 1, by omega, by omega, by go_num, by rw [HS.out]; congr 1; unfold mx; repeat' split; all_goals omega, by repeat (with_reducible first | exact Below.refl _ _ | assumption | refine Bel.alloc ?_ _ | refine Bel.step (by assumption) ?_ | refine Below.drew ?_ | refine Bel.drewN ?_ _ | refine Below.setCell ?_ (by first | exact Nat.le_refl _ | omega | (simp; done) | (simp; omega)) _)⟩
      case measure => simp [intOf]; omega
    · obtain rfl : k = zs.length := by omega
      go_wp2
      go_ret
      exact ⟨rfl, by repeat (with_reducible first | exact Below.refl _ _ | assumption | refine Bel.alloc ?_ _ | refine Bel.step (by assumption) ?_ | refine Below.drew ?_ | refine Bel.drewN ?_ _ | refine Below.setCell ?_ (by first | exact Nat.le_refl _ | omega | (simp; done) | (simp; omega)) _)⟩
set_option maxRecDepth 50000 in
theorem slicesMin_c (A : Option Addr) (c : Nat) (zs : List Int) (h0 : 0 < zs.length) (hn : zs.length ≤ 1048576) (w : World) (hA : Ints w A zs) :
    Calls Try.prog 206 #[.slice A zs.length c] w fun e w' => e = .returned (.int .i64 (mnP zs zs.length)) ∧ Below w.heap.size w w' := by
  have HZ := Lib.hid (show mnP zs 1 = zs[0] by rw [mnP_1, List.getD_eq_getElem?_getD, List.getElem?_eq_getElem h0]; rfl)
  obtain ⟨b, o, e, hbb, hc⟩ := hA.at_ 0 h0
  rw [Nat.add_zero] at hc
  generalize zs[0] = z0 at HZ hc
  have HI := Lib.hid hA
  clear hA
  subst e
  go_enter Try.func206, Try.ntmps206
  go_wp2
  go_loopw [3, 4] (fun m i wr => ∃ k : Nat, 1 ≤ k ∧ k ≤ zs.length ∧ i = .int .i64 k ∧ m = .int .i64 (mnP zs k) ∧ Below w.heap.size w wr) (fun _ i _ => zs.length - (intOf i).toNat)
  case atStart => exact ⟨1, by omega, h0, rfl, by rw [HZ.out], by repeat (with_reducible first | exact Below.refl _ _ | assumption | refine Bel.alloc ?_ _ | refine Bel.step (by assumption) ?_ | refine Below.drew ?_ | refine Bel.drewN ?_ _ | refine Below.setCell ?_ (by first | exact Nat.le_refl _ | omega | (simp; done) | (simp; omega)) _)⟩
  case round =>
    obtain ⟨k, hk1, hk, rfl, rfl, hbel⟩ := hrel
    by_cases hlt : k < zs.length
    · obtain ⟨b', o', e, hbb', hck⟩ := (Ints.step hbel HI.out).at_ k hlt
      cases e
      have HS := Lib.hid (show mnP zs (k + 1) = mn (mnP zs k) zs[k] by rw [show zs[k] = zs.getD k 0 by rw [List.getD_eq_getElem?_getD, List.getElem?_eq_getElem hlt]; rfl]; rfl)
      generalize zs[k] = z at HS hck
      generalize mnP zs k = m at HS ⊢
      go_wp2
      go_roundw
      case rel => exact ⟨k + 1, by omega, by omega, by go_num, by rw [HS.out]; congr 1; unfold mn; repeat' split; all_goals omega, by repeat (with_reducible first | exact Below.refl _ _ | assumption | refine Bel.alloc ?_ _ | refine Bel.step (by assumption) ?_ | refine Below.drew ?_ | refine Bel.drewN ?_ _ | refine Below.setCell ?_ (by first | exact Nat.le_refl _ | omega | (simp; done) | (simp; omega)) _)⟩
      case measure => simp [intOf]; omega
    · obtain rfl : k = zs.length := by omega
      go_wp2
      go_ret
      exact ⟨rfl, by repeat (with_reducible first | exact Below.refl _ _ | assumption | refine Bel.alloc ?_ _ | refine Bel.step (by assumption) ?_ | refine Below.drew ?_ | refine Bel.drewN ?_ _ | refine Below.setCell ?_ (by first | exact Nat.le_refl _ | omega | (simp; done) | (simp; omega)) _)⟩
end Go.Proofs.Ytpmcgicopogbhaa
