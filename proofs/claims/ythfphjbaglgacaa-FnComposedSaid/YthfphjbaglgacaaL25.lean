/- Chapter 25: projections and rational points. Conditions: as stated at each contract. -/
import Derived.Test.YthfphjbaglgacaaProg
import Derived.Test.YthfphjbaglgacaaBase
import Derived.Test.YthfphjbaglgacaaL01
import Derived.Test.YthfphjbaglgacaaCp
import Derived.WalkKit
import Derived.WalkSpells
import Derived.WalkLawsBesides
import Derived.Lib.Hide
import Derived.Deep.QuietTactic
import Derived.BigQuiet
import Derived.Deep.Draws
import Derived.Deep.RegionHeld3
namespace Go.Proofs.Ythfphjbaglgacaa
open Go.RowKit
set_option linter.unusedVariables false

/-- The entries below e that lie neither in row r nor in column c. -/
def minL (m : List Int) (r c : Int) : Nat → List Int
  | 0 => []
  | e + 1 => minL m r c e ++ (if ((e / 3 : Nat) : Int) ≠ r ∧ ((e % 3 : Nat) : Int) ≠ c then [m.getD e 0] else [])
theorem minL_yes (m : List Int) (r c : Int) (e : Nat) (h : ((e / 3 : Nat) : Int) ≠ r ∧ ((e % 3 : Nat) : Int) ≠ c) : minL m r c (e + 1) = minL m r c e ++ [m.getD e 0] := by rw [minL, if_pos h]
theorem minL_no (m : List Int) (r c : Int) (e : Nat) (h : ¬ (((e / 3 : Nat) : Int) ≠ r ∧ ((e % 3 : Nat) : Int) ≠ c)) : minL m r c (e + 1) = minL m r c e := by rw [minL, if_neg h, List.append_nil]
theorem minL_len (m : List Int) (r c : Int) (e : Nat) : (minL m r c e).length ≤ e := by
  induction e with
  | zero => simp [minL]
  | succ e ih => rw [minL, List.length_append]; split <;> simp <;> omega
def minV (m : List Int) (r c : Int) : Int := (minL m r c 9).getD 0 0 * (minL m r c 9).getD 3 0 - (minL m r c 9).getD 1 0 * (minL m r c 9).getD 2 0
theorem minL_4 (m : List Int) (r c : Int) (h1 : 0 ≤ r) (h2 : r ≤ 2) (h3 : 0 ≤ c) (h4 : c ≤ 2) : (minL m r c 9).length = 4 := by
  have hr : r = 0 ∨ r = 1 ∨ r = 2 := by omega
  have hc : c = 0 ∨ c = 1 ∨ c = 2 := by omega
  rcases hr with rfl | rfl | rfl <;> rcases hc with rfl | rfl | rfl <;> simp [minL]
theorem minL_bd (m : List Int) (r c : Int) (e : Nat) (hb : ∀ i, -1000000 ≤ m.getD i 0 ∧ m.getD i 0 ≤ 1000000) : ∀ x ∈ minL m r c e, -1000000 ≤ x ∧ x ≤ 1000000 := by
  induction e with
  | zero => intro x hx; simp [minL] at hx
  | succ e ih =>
    intro x hx
    rw [minL, List.mem_append] at hx
    rcases hx with hx | hx
    · exact ih x hx
    · split at hx
      · simp only [List.mem_singleton] at hx
        subst hx; exact hb e
      · cases hx
theorem minV_bd (m : List Int) (r c : Int) (h1 : 0 ≤ r) (h2 : r ≤ 2) (h3 : 0 ≤ c) (h4 : c ≤ 2) (hb : ∀ i, -1000000 ≤ m.getD i 0 ∧ m.getD i 0 ≤ 1000000) : -2000000000000 ≤ minV m r c ∧ minV m r c ≤ 2000000000000 := by
  obtain ⟨x0, x1, x2, x3, hx⟩ := len4 (minL_4 m r c h1 h2 h3 h4)
  have hV : minV m r c = x0 * x3 - x1 * x2 := by simp [minV, hx]
  have hbd := fun x (h : x ∈ minL m r c 9) => minL_bd m r c 9 hb x h
  rw [hx] at hbd
  obtain ⟨b0, b1⟩ := hbd x0 (by simp)
  obtain ⟨b2, b3⟩ := hbd x1 (by simp)
  obtain ⟨b4, b5⟩ := hbd x2 (by simp)
  obtain ⟨b6, b7⟩ := hbd x3 (by simp)
  obtain ⟨m1, m2⟩ := mul_bd x0 x3 1000000 1000000 b0 b1 b6 b7
  obtain ⟨m3, m4⟩ := mul_bd x1 x2 1000000 1000000 b2 b3 b4 b5
  omega
theorem l25Minor_c (m : List Int) (r q : Int) (A : Option Addr) (n c : Nat) (hm : m.length = 9) (hn9 : n = 9) (h1 : 0 ≤ r) (h2 : r ≤ 2) (h3 : 0 ≤ q) (h4 : q ≤ 2) (hb : ∀ i, -1000000 ≤ m.getD i 0 ∧ m.getD i 0 ≤ 1000000) (w : World) (hA : Ints w A m) :
    Calls Try.prog 97 #[.slice A n c, .int .i64 r, .int .i64 q] w fun e w' => e = .returned (.int .i64 (minV m r q)) ∧ Below w.heap.size w w' := by
  subst hn9
  have HB := Lib.hid hb
  have HM := Lib.hid hm
  clear hb hm
  go_enter Try.func97, Try.ntmps97
  go_wp2
  go_loopw [7, 8] (fun v i wr => ∃ k : Nat, k ≤ 9 ∧ i = .int .i64 k ∧ Own wr w.heap.size 2 v (minL m r q k) ∧ Below w.heap.size w wr) (fun _ i _ => 9 - (intOf i).toNat)
  case atStart => exact ⟨0, Nat.zero_le _, rfl, Own.new _ _ _ (Nat.le_refl _), by repeat (with_reducible first | exact Below.refl _ _ | assumption | refine Bel.alloc ?_ _ | refine Bel.step (by assumption) ?_ | refine Below.drew ?_ | refine Bel.drewN ?_ _ | refine Below.setCell ?_ (by first | exact Nat.le_refl _ | omega | (simp; done) | (simp; omega)) _)⟩
  case round =>
    obtain ⟨k, hk, rfl, hO, hbel⟩ := hrel
    by_cases hlt : k < 9
    · obtain ⟨b, o, rfl, hbb, hc⟩ := (Ints.step hbel hA).at_ k (by rw [HM.out]; exact hlt)
      obtain ⟨y, hy⟩ : ∃ y, y = m.getD k 0 := ⟨_, rfl⟩
      rw [← getD_at 0 m k (by rw [HM.out]; exact hlt), ← hy] at hc
      have HY := Lib.hid hy
      clear hy
      have e1 : ((k / 3 : Nat) : Int) = (k : Int) / 3 := by omega
      have e2 : ((k % 3 : Nat) : Int) = (k : Int) % 3 := by omega
      by_cases c1 : (k : Int) / 3 = r
      · have b1 : ((k : Int) / 3 != r) = false := by simp [c1]
        have HN := Lib.hid (minL_no m r q k (by rw [e1, e2]; simp [c1]))
        clear e1 e2 c1
        go_wp2
        go_roundw
        case rel => exact ⟨k + 1, by omega, by go_num, by rw [HN.out]; exact hO, by repeat (with_reducible first | exact Below.refl _ _ | assumption | refine Bel.alloc ?_ _ | refine Bel.step (by assumption) ?_ | refine Below.drew ?_ | refine Bel.drewN ?_ _ | refine Below.setCell ?_ (by first | exact Nat.le_refl _ | omega | (simp; done) | (simp; omega)) _)⟩
        case measure => simp [intOf]; omega
      · have b1 : ((k : Int) / 3 != r) = true := by simp [c1]
        by_cases c2 : (k : Int) % 3 = q
        · have b2 : ((k : Int) % 3 != q) = false := by simp [c2]
          have HN := Lib.hid (minL_no m r q k (by rw [e1, e2]; simp [c2]))
          clear e1 e2 c1 c2
          go_wp2
          go_roundw
          case rel => exact ⟨k + 1, by omega, by go_num, by rw [HN.out]; exact hO, by repeat (with_reducible first | exact Below.refl _ _ | assumption | refine Bel.alloc ?_ _ | refine Bel.step (by assumption) ?_ | refine Below.drew ?_ | refine Bel.drewN ?_ _ | refine Below.setCell ?_ (by first | exact Nat.le_refl _ | omega | (simp; done) | (simp; omega)) _)⟩
          case measure => simp [intOf]; omega
        · have b2 : ((k : Int) % 3 != q) = true := by simp [c2]
          have HN := Lib.hid (minL_yes m r q k (by rw [e1, e2]; exact ⟨c1, c2⟩))
          have hL := minL_len m r q k
          clear e1 e2 c1 c2
          go_wp2_with (at_builtin; refine wpList_app1 rfl _ _ 43 rfl w.heap.size 2 Try.underlying43 info64 _ _ y rfl (Own.alloc _ hO) wr.heap.size rfl (by simp) (by omega) (by have := hbel.size; simp; omega) ?_; intro v1 w1 hO1 hb1)
          go_roundw
          case rel => exact ⟨k + 1, by omega, by go_num, by rw [HN.out, ← HY.out]; exact hO1, hbel.trans ((Below.alloc (Below.refl _ _) hbel.size _).trans hb1)⟩
          case measure => simp [intOf]; omega
    · obtain rfl : k = 9 := by omega
      obtain ⟨x0, x1, x2, x3, hx⟩ := len4 (minL_4 m r q h1 h2 h3 h4)
      have hV := Lib.hid (show minV m r q = x0 * x3 - x1 * x2 by simp [minV, hx])
      have hbd := fun x (h : x ∈ minL m r q 9) => minL_bd m r q 9 HB.out x h
      rw [hx] at hO hbd
      obtain ⟨b0, b1⟩ := hbd x0 (by simp)
      obtain ⟨b2, b3⟩ := hbd x1 (by simp)
      obtain ⟨b4, b5⟩ := hbd x2 (by simp)
      obtain ⟨b6, b7⟩ := hbd x3 (by simp)
      obtain ⟨A', c', rfl, hcc, _, hI, _⟩ := hO.form
      obtain ⟨b, o, rfl, hbb, hc0, hc1, hc2, hc3⟩ := hI.four
      obtain ⟨m1, m2⟩ := mul_bd x0 x3 1000000 1000000 b0 b1 b6 b7
      obtain ⟨m3, m4⟩ := mul_bd x1 x2 1000000 1000000 b2 b3 b4 b5
      have e1 : IntKind.i64.wrap (x0 * x3) = x0 * x3 := wr64 (by omega) (by omega)
      have e2 : IntKind.i64.wrap (x1 * x2) = x1 * x2 := wr64 (by omega) (by omega)
      have e3 : IntKind.i64.wrap (x0 * x3 - x1 * x2) = x0 * x3 - x1 * x2 := wr64 (by omega) (by omega)
      clear hbd hx hI hO hcc
      go_wp2
      go_quiet (fail)
      go_wp2
      go_ret
      exact ⟨by rw [hV.out]; rfl, by repeat (with_reducible first | exact Below.refl _ _ | assumption | refine Bel.alloc ?_ _ | refine Bel.step (by assumption) ?_ | refine Below.drew ?_ | refine Bel.drewN ?_ _ | refine Below.setCell ?_ (by first | exact Nat.le_refl _ | omega | (simp; done) | (simp; omega)) _)⟩
theorem minor_c (m : List Int) (r q : Int) (A : Option Addr) (n c : Nat) (hm : m.length = 9) (hn9 : n = 9) (h1 : 0 ≤ r) (h2 : r ≤ 2) (h3 : 0 ≤ q) (h4 : q ≤ 2) (hb : ∀ i, -1000000 ≤ m.getD i 0 ∧ m.getD i 0 ≤ 1000000) (w : World) (hA : Ints w A m) :
    Calls Try.prog 95 #[.slice A n c, .int .i64 r, .int .i64 q] w fun e w' => e = .returned (.int .i64 (minV m r q)) ∧ Below w.heap.size w w' := by
  subst hn9
  have HB := Lib.hid hb
  have HM := Lib.hid hm
  clear hb hm
  go_enter Try.func95, Try.ntmps95
  go_wp2
  go_loopw [7, 8, 9, 11, 14] (fun v _ _ i _ wr => ∃ k : Nat, k ≤ 3 ∧ i = .int .i64 k ∧ Own wr w.heap.size 2 v (minL m r q (3 * k)) ∧ Below w.heap.size w wr) (fun _ _ _ i _ _ => 3 - (intOf i).toNat)
  case atStart => exact ⟨0, Nat.zero_le _, rfl, Own.new _ _ _ (Nat.le_refl _), by repeat (with_reducible first | exact Below.refl _ _ | assumption | refine Bel.alloc ?_ _ | refine Bel.step (by assumption) ?_ | refine Below.drew ?_ | refine Bel.drewN ?_ _ | refine Below.setCell ?_ (by first | exact Nat.le_refl _ | omega | (simp; done) | (simp; omega)) _)⟩
  case round =>
    obtain ⟨k, hk, rfl, hO, hbel⟩ := hrel
    by_cases hlt : k < 3
    · obtain ⟨wo, rfl⟩ : ∃ wo : World, wo = wr := ⟨_, rfl⟩
      have d1 : decide ((k : Int) < 3) = true := by simp; omega
      go_wp2
      go_loopw [7, 9, 14] (fun v _ j wr => ∃ l : Nat, l ≤ 3 ∧ j = .int .i64 l ∧ Own wr w.heap.size 2 v (minL m r q (3 * k + l)) ∧ Below w.heap.size w wr) (fun _ _ j _ => 3 - (intOf j).toNat)
      case atStart => exact ⟨0, Nat.zero_le _, rfl, hO, hbel⟩
      case round =>
        clear hO hbel
        obtain ⟨l, hl, rfl, hO, hbel⟩ := hrel
        by_cases hlt2 : l < 3
        · obtain ⟨b, o, rfl, hbb, hc⟩ := (Ints.step hbel hA).at_ (3 * k + l) (by rw [HM.out]; omega)
          obtain ⟨y, hy⟩ : ∃ y, y = m.getD (3 * k + l) 0 := ⟨_, rfl⟩
          rw [← getD_at 0 m (3 * k + l) (by rw [HM.out]; omega), ← hy] at hc
          have HY := Lib.hid hy
          clear hy
          have e1 : (((3 * k + l) / 3 : Nat) : Int) = (k : Int) := by omega
          have e2 : (((3 * k + l) % 3 : Nat) : Int) = (l : Int) := by omega
          by_cases c1 : (k : Int) = r
          · have b1 : ((k : Int) != r) = false := by simp [c1]
            have HN := Lib.hid (minL_no m r q (3 * k + l) (by rw [e1, e2]; simp [c1]))
            clear e1 e2 c1
            go_wp2
            go_roundw
            case rel => exact ⟨l + 1, by omega, by go_num, by rw [← Nat.add_assoc, HN.out]; exact hO, by repeat (with_reducible first | exact Below.refl _ _ | assumption | refine Bel.alloc ?_ _ | refine Bel.step (by assumption) ?_ | refine Below.drew ?_ | refine Bel.drewN ?_ _ | refine Below.setCell ?_ (by first | exact Nat.le_refl _ | omega | (simp; done) | (simp; omega)) _)⟩
            case measure => simp [intOf]; omega
          · have b1 : ((k : Int) != r) = true := by simp [c1]
            by_cases c2 : (l : Int) = q
            · have b2 : ((l : Int) != q) = false := by simp [c2]
              have HN := Lib.hid (minL_no m r q (3 * k + l) (by rw [e1, e2]; simp [c2]))
              clear e1 e2 c1 c2
              go_wp2
              go_roundw
              case rel => exact ⟨l + 1, by omega, by go_num, by rw [← Nat.add_assoc, HN.out]; exact hO, by repeat (with_reducible first | exact Below.refl _ _ | assumption | refine Bel.alloc ?_ _ | refine Bel.step (by assumption) ?_ | refine Below.drew ?_ | refine Bel.drewN ?_ _ | refine Below.setCell ?_ (by first | exact Nat.le_refl _ | omega | (simp; done) | (simp; omega)) _)⟩
              case measure => simp [intOf]; omega
            · have b2 : ((l : Int) != q) = true := by simp [c2]
              have HN := Lib.hid (minL_yes m r q (3 * k + l) (by rw [e1, e2]; exact ⟨c1, c2⟩))
              have hL := minL_len m r q (3 * k + l)
              have x1 : (3 * (k : Int) + l).toNat = 3 * k + l := by omega
              have x2 : 0 ≤ 3 * (k : Int) + l := by omega
              have x3 : 3 * (k : Int) + l < 9 := by omega
              clear e1 e2 c1 c2
              go_wp2_with (at_builtin; refine wpList_app1 rfl _ _ 43 rfl w.heap.size 2 Try.underlying43 info64 _ _ y rfl (Own.alloc _ hO) wr.heap.size rfl (by simp) (by omega) (by have := hbel.size; simp; omega) ?_; intro v1 w1 hO1 hb1)
              go_roundw
              case rel =>
                have hR : ∃ l' : Nat, l' ≤ 3 ∧ Value.int .i64 (l + 1) = .int .i64 l' ∧ Own w1 w.heap.size 2 v1 (minL m r q (3 * k + l')) ∧ Below w.heap.size w w1 := ⟨l + 1, by omega, by go_num, by rw [← Nat.add_assoc, HN.out, ← HY.out]; exact hO1, hbel.trans ((Below.alloc (Below.refl _ _) hbel.size _).trans hb1)⟩
                first | exact hR | ((repeat apply Exists.intro); exact ⟨hR, rfl⟩)
              case measure => simp [intOf]; omega
        · obtain rfl : l = 3 := by omega
          go_wp2
          go_roundw
          case rel => exact ⟨k + 1, by omega, by go_num, hO, hbel⟩
          case measure => simp [intOf]; omega
    · obtain rfl : k = 3 := by omega
      obtain ⟨x0, x1, x2, x3, hx⟩ := len4 (minL_4 m r q h1 h2 h3 h4)
      have hV := Lib.hid (show minV m r q = x0 * x3 - x1 * x2 by simp [minV, hx])
      have hbd := fun x (h : x ∈ minL m r q 9) => minL_bd m r q 9 HB.out x h
      rw [show 3 * 3 = 9 from rfl, hx] at hO
      rw [hx] at hbd
      obtain ⟨b0, b1⟩ := hbd x0 (by simp)
      obtain ⟨b2, b3⟩ := hbd x1 (by simp)
      obtain ⟨b4, b5⟩ := hbd x2 (by simp)
      obtain ⟨b6, b7⟩ := hbd x3 (by simp)
      obtain ⟨A', c', rfl, hcc, _, hI, _⟩ := hO.form
      obtain ⟨b, o, rfl, hbb, hc0, hc1, hc2, hc3⟩ := hI.four
      obtain ⟨m1, m2⟩ := mul_bd x0 x3 1000000 1000000 b0 b1 b6 b7
      obtain ⟨m3, m4⟩ := mul_bd x1 x2 1000000 1000000 b2 b3 b4 b5
      have e1 : IntKind.i64.wrap (x0 * x3) = x0 * x3 := wr64 (by omega) (by omega)
      have e2 : IntKind.i64.wrap (x1 * x2) = x1 * x2 := wr64 (by omega) (by omega)
      have e3 : IntKind.i64.wrap (x0 * x3 - x1 * x2) = x0 * x3 - x1 * x2 := wr64 (by omega) (by omega)
      clear hbd hx hI hO hcc
      go_wp2
      go_quiet (fail)
      go_wp2
      go_ret
      exact ⟨by rw [hV.out]; rfl, by repeat (with_reducible first | exact Below.refl _ _ | assumption | refine Bel.alloc ?_ _ | refine Bel.step (by assumption) ?_ | refine Below.drew ?_ | refine Bel.drewN ?_ _ | refine Below.setCell ?_ (by first | exact Nat.le_refl _ | omega | (simp; done) | (simp; omega)) _)⟩
def detV (m : List Int) : Int := m.getD 0 0 * minV m 0 0 - m.getD 1 0 * minV m 0 1 + m.getD 2 0 * minV m 0 2
set_option maxHeartbeats 1000000 in
theorem l25Det_c (m : List Int) (A : Option Addr) (n c : Nat) (hm : m.length = 9) (hn9 : n = 9) (hb : ∀ i, -1000000 ≤ m.getD i 0 ∧ m.getD i 0 ≤ 1000000) (w : World) (hA : Ints w A m) :
    Calls Try.prog 102 #[.slice A n c] w fun e w' => e = .returned (.int .i64 (detV m)) ∧ Below w.heap.size w w' := by
  subst hn9
  obtain ⟨p1, p2⟩ := minV_bd m 0 0 (by omega) (by omega) (by omega) (by omega) hb
  obtain ⟨p3, p4⟩ := minV_bd m 0 1 (by omega) (by omega) (by omega) (by omega) hb
  obtain ⟨p5, p6⟩ := minV_bd m 0 2 (by omega) (by omega) (by omega) (by omega) hb
  obtain ⟨q1, q2⟩ := hb 0
  obtain ⟨q3, q4⟩ := hb 1
  obtain ⟨q5, q6⟩ := hb 2
  obtain ⟨x0, hx0⟩ : ∃ x, x = m.getD 0 0 := ⟨_, rfl⟩
  obtain ⟨x1, hx1⟩ : ∃ x, x = m.getD 1 0 := ⟨_, rfl⟩
  obtain ⟨x2, hx2⟩ : ∃ x, x = m.getD 2 0 := ⟨_, rfl⟩
  have hV : detV m = x0 * minV m 0 0 - x1 * minV m 0 1 + x2 * minV m 0 2 := by rw [hx0, hx1, hx2]; rfl
  rw [← hx0] at q1 q2
  rw [← hx1] at q3 q4
  rw [← hx2] at q5 q6
  obtain ⟨m1, m2⟩ := mul_bd x0 (minV m 0 0) 1000000 2000000000000 q1 q2 p1 p2
  obtain ⟨m3, m4⟩ := mul_bd x1 (minV m 0 1) 1000000 2000000000000 q3 q4 p3 p4
  obtain ⟨m5, m6⟩ := mul_bd x2 (minV m 0 2) 1000000 2000000000000 q5 q6 p5 p6
  obtain ⟨b, o, rfl, hbb, hcell⟩ := hA (by omega)
  have k0 : w.cell? ⟨b, o, none⟩ = some (.int .i64 x0) := by rw [hx0]; exact hcell 0 (by omega)
  have k1 : w.cell? ⟨b, o + 1, none⟩ = some (.int .i64 x1) := by rw [hx1]; exact hcell 1 (by omega)
  have k2 : w.cell? ⟨b, o + 2, none⟩ = some (.int .i64 x2) := by rw [hx2]; exact hcell 2 (by omega)
  have HV := Lib.hid hV
  have HM := Lib.hid hm
  have HB := Lib.hid hb
  have HI := Lib.hid hA
  have e1 : IntKind.i64.wrap (x0 * minV m 0 0) = x0 * minV m 0 0 := wr64 (by omega) (by omega)
  have e2 : IntKind.i64.wrap (x1 * minV m 0 1) = x1 * minV m 0 1 := wr64 (by omega) (by omega)
  have e3 : IntKind.i64.wrap (x2 * minV m 0 2) = x2 * minV m 0 2 := wr64 (by omega) (by omega)
  have e4 : IntKind.i64.wrap (x0 * minV m 0 0 - x1 * minV m 0 1) = x0 * minV m 0 0 - x1 * minV m 0 1 := wr64 (by omega) (by omega)
  have e5 : IntKind.i64.wrap (x0 * minV m 0 0 - x1 * minV m 0 1 + x2 * minV m 0 2) = x0 * minV m 0 0 - x1 * minV m 0 1 + x2 * minV m 0 2 := wr64 (by omega) (by omega)
  clear hx0 hx1 hx2 hV hm hb hcell hA p1 p2 p3 p4 p5 p6 q1 q2 q3 q4 q5 q6 m1 m2 m3 m4 m5 m6
  go_enter Try.func102, Try.ntmps102
  go_wp2
  go_region_held3 (fun w' => w'.cell? ⟨b, o, none⟩ = some (.int .i64 x0) ∧ w'.cell? ⟨b, o + 1, none⟩ = some (.int .i64 x1) ∧ w'.cell? ⟨b, o + 2, none⟩ = some (.int .i64 x2)) (simp [go_sem, *])
      (first | (go_at_call 97; refine (l25Minor_c _ _ _ _ _ _ HM.out (by first | rfl | exact HM.out) (by omega) (by omega) (by omega) (by omega) HB.out _ (by repeat (with_reducible first | exact HI.out | assumption | refine Ints.drew ?_ | refine Ints.drewN _ ?_ | refine Ints.alloc _ ?_ | refine Ints.step (by assumption) ?_))).mono ?_; rintro e w1 ⟨rfl, hb1⟩; obtain ⟨hc1, hf1, hz1⟩ := bel hb1; (try simp only [World.size_drew, World.cell?_drew, World.frozen?_drew] at hc1 hf1 hz1); (try simp only [World.heap_drewN, World.cell?_drewN, World.frozen?_drewN] at hc1 hf1 hz1); (try have hl1 : w.heap.size < w1.heap.size := by (have hq := hb1.size; (try simp at hq); omega)); (try have hm1 : w.heap.size + 1 < w1.heap.size := by (have hq := hb1.size; (try simp at hq); omega)); (try have hn1 : w.heap.size + 1 + 1 < w1.heap.size := by (have hq := hb1.size; (try simp at hq); omega)); (try have hp1 : b < w1.heap.size := by (have hq := hb1.size; (try simp at hq); omega)); (try have ho1 : b' < w1.heap.size := by (have hq := hb1.size; (try simp at hq); omega))))
  all_goals
    go_wp2
    go_ret
    exact ⟨by rw [HV.out]; rfl, by repeat (with_reducible first | exact Below.refl _ _ | assumption | refine Bel.alloc ?_ _ | refine Bel.step (by assumption) ?_ | refine Below.drew ?_ | refine Bel.drewN ?_ _ | refine Below.setCell ?_ (by first | exact Nat.le_refl _ | omega | (simp; done) | (simp; omega)) _)⟩
set_option maxHeartbeats 1000000 in
theorem determinant_c (m : List Int) (A : Option Addr) (n c : Nat) (hm : m.length = 9) (hn9 : n = 9) (hb : ∀ i, -1000000 ≤ m.getD i 0 ∧ m.getD i 0 ≤ 1000000) (w : World) (hA : Ints w A m) :
    Calls Try.prog 101 #[.slice A n c] w fun e w' => e = .returned (.int .i64 (detV m)) ∧ Below w.heap.size w w' := by
  subst hn9
  obtain ⟨p1, p2⟩ := minV_bd m 0 0 (by omega) (by omega) (by omega) (by omega) hb
  obtain ⟨p3, p4⟩ := minV_bd m 0 1 (by omega) (by omega) (by omega) (by omega) hb
  obtain ⟨p5, p6⟩ := minV_bd m 0 2 (by omega) (by omega) (by omega) (by omega) hb
  obtain ⟨q1, q2⟩ := hb 0
  obtain ⟨q3, q4⟩ := hb 1
  obtain ⟨q5, q6⟩ := hb 2
  obtain ⟨x0, hx0⟩ : ∃ x, x = m.getD 0 0 := ⟨_, rfl⟩
  obtain ⟨x1, hx1⟩ : ∃ x, x = m.getD 1 0 := ⟨_, rfl⟩
  obtain ⟨x2, hx2⟩ : ∃ x, x = m.getD 2 0 := ⟨_, rfl⟩
  have hV : detV m = x0 * minV m 0 0 - x1 * minV m 0 1 + x2 * minV m 0 2 := by rw [hx0, hx1, hx2]; rfl
  rw [← hx0] at q1 q2
  rw [← hx1] at q3 q4
  rw [← hx2] at q5 q6
  obtain ⟨m1, m2⟩ := mul_bd x0 (minV m 0 0) 1000000 2000000000000 q1 q2 p1 p2
  obtain ⟨m3, m4⟩ := mul_bd x1 (minV m 0 1) 1000000 2000000000000 q3 q4 p3 p4
  obtain ⟨m5, m6⟩ := mul_bd x2 (minV m 0 2) 1000000 2000000000000 q5 q6 p5 p6
  obtain ⟨b, o, rfl, hbb, hcell⟩ := hA (by omega)
  have k0 : w.cell? ⟨b, o, none⟩ = some (.int .i64 x0) := by rw [hx0]; exact hcell 0 (by omega)
  have k1 : w.cell? ⟨b, o + 1, none⟩ = some (.int .i64 x1) := by rw [hx1]; exact hcell 1 (by omega)
  have k2 : w.cell? ⟨b, o + 2, none⟩ = some (.int .i64 x2) := by rw [hx2]; exact hcell 2 (by omega)
  have HV := Lib.hid hV
  have HM := Lib.hid hm
  have HB := Lib.hid hb
  have HI := Lib.hid hA
  have e1 : IntKind.i64.wrap (x0 * minV m 0 0) = x0 * minV m 0 0 := wr64 (by omega) (by omega)
  have e2 : IntKind.i64.wrap (x1 * minV m 0 1) = x1 * minV m 0 1 := wr64 (by omega) (by omega)
  have e3 : IntKind.i64.wrap (x2 * minV m 0 2) = x2 * minV m 0 2 := wr64 (by omega) (by omega)
  have e4 : IntKind.i64.wrap (x0 * minV m 0 0 - x1 * minV m 0 1) = x0 * minV m 0 0 - x1 * minV m 0 1 := wr64 (by omega) (by omega)
  have e5 : IntKind.i64.wrap (x0 * minV m 0 0 - x1 * minV m 0 1 + x2 * minV m 0 2) = x0 * minV m 0 0 - x1 * minV m 0 1 + x2 * minV m 0 2 := wr64 (by omega) (by omega)
  clear hx0 hx1 hx2 hV hm hb hcell hA p1 p2 p3 p4 p5 p6 q1 q2 q3 q4 q5 q6 m1 m2 m3 m4 m5 m6
  go_enter Try.func101, Try.ntmps101
  go_wp2
  go_region_held3 (fun w' => w'.cell? ⟨b, o, none⟩ = some (.int .i64 x0) ∧ w'.cell? ⟨b, o + 1, none⟩ = some (.int .i64 x1) ∧ w'.cell? ⟨b, o + 2, none⟩ = some (.int .i64 x2)) (simp [go_sem, *])
      (first | (go_at_call 95; refine (minor_c _ _ _ _ _ _ HM.out (by first | rfl | exact HM.out) (by omega) (by omega) (by omega) (by omega) HB.out _ (by repeat (with_reducible first | exact HI.out | assumption | refine Ints.drew ?_ | refine Ints.drewN _ ?_ | refine Ints.alloc _ ?_ | refine Ints.step (by assumption) ?_))).mono ?_; rintro e w1 ⟨rfl, hb1⟩; obtain ⟨hc1, hf1, hz1⟩ := bel hb1; (try simp only [World.size_drew, World.cell?_drew, World.frozen?_drew] at hc1 hf1 hz1); (try simp only [World.heap_drewN, World.cell?_drewN, World.frozen?_drewN] at hc1 hf1 hz1); (try have hl1 : w.heap.size < w1.heap.size := by (have hq := hb1.size; (try simp at hq); omega)); (try have hm1 : w.heap.size + 1 < w1.heap.size := by (have hq := hb1.size; (try simp at hq); omega)); (try have hn1 : w.heap.size + 1 + 1 < w1.heap.size := by (have hq := hb1.size; (try simp at hq); omega)); (try have hp1 : b < w1.heap.size := by (have hq := hb1.size; (try simp at hq); omega)); (try have ho1 : b' < w1.heap.size := by (have hq := hb1.size; (try simp at hq); omega))))
  all_goals
    go_wp2
    go_ret
    exact ⟨by rw [HV.out]; rfl, by repeat (with_reducible first | exact Below.refl _ _ | assumption | refine Bel.alloc ?_ _ | refine Bel.step (by assumption) ?_ | refine Below.drew ?_ | refine Bel.drewN ?_ _ | refine Below.setCell ?_ (by first | exact Nat.le_refl _ | omega | (simp; done) | (simp; omega)) _)⟩
theorem commonOf_c (A : Option Addr) (c : Nat) (zs : List Int) (hn : zs.length ≤ 1048576) (hb : ∀ x ∈ zs, -4000000000000000000 ≤ x ∧ x ≤ 4000000000000000000) (w : World) (hA : Ints w A zs) :
    Calls Try.prog 151 #[.slice A zs.length c] w fun e w' => e = .returned (.int .i64 (gcL zs)) ∧ ∃ n, w' = w.drewN n := by
  have HB := Lib.hid hb
  clear hb
  go_enter Try.func151, Try.ntmps151
  go_wp2
  go_loopw [3, 5, 8] (fun out _ i wr => ∃ k : Nat, k ≤ zs.length ∧ i = .int .i64 k ∧ out = .int .i64 (gcL (zs.take k)) ∧ ∃ n, wr = w.drewN n) (fun _ _ i _ => zs.length - (intOf i).toNat)
  case atStart => exact ⟨0, Nat.zero_le _, rfl, rfl, 0, rfl⟩
  case round =>
    obtain ⟨k, hk, rfl, rfl, n, rfl⟩ := hrel
    obtain ⟨g1, g2⟩ := gcL_bd zs 4000000000000000000 (by omega) HB.out k
    by_cases hlt : k < zs.length
    · obtain ⟨b, o, rfl, hbb, hc⟩ := hA.at_ k hlt
      obtain ⟨x1, x2⟩ := HB.out _ (List.getElem_mem hlt)
      have HS := Lib.hid (gcL_step zs k hlt)
      go_wp2_with (first | (go_at_call 173; refine (divisorOf_c _ _ (by omega) (by omega) (by omega) (by omega) _).mono ?_; rintro e w' ⟨rfl, n1, rfl⟩))
      go_roundw
      case rel => exact ⟨k + 1, by omega, by go_num, by rw [HS.out], _, rfl⟩
      case measure => simp [intOf]; omega
    · obtain rfl : k = zs.length := by omega
      have HV := Lib.hid (show gcL (zs.take zs.length) = gcL zs by rw [List.take_length])
      go_wp2
      go_ret
      exact ⟨ret_int HV.out, n, rfl⟩
theorem commonOf3_c (b : Nat) (x y z : Int) (hx1 : -4000000000000000000 ≤ x) (hx2 : x ≤ 4000000000000000000) (hy1 : -4000000000000000000 ≤ y) (hy2 : y ≤ 4000000000000000000) (hz1 : -4000000000000000000 ≤ z) (hz2 : z ≤ 4000000000000000000) (w : World)
    (h0 : w.cell? ⟨b, 0, none⟩ = some (.int .i64 x)) (h1 : w.cell? ⟨b, 1, none⟩ = some (.int .i64 y)) (h2 : w.cell? ⟨b, 2, none⟩ = some (.int .i64 z)) :
    Calls Try.prog 151 #[.slice (some ⟨b, 0, none⟩) 3 3] w fun e w' => e = .returned (.int .i64 (Gc (Gc x y) z)) ∧ ∃ n, w' = w.drewN n := by
  have hI : Ints w (some ⟨b, 0, none⟩) [x, y, z] := fun _ => ⟨b, 0, rfl, World.block_lt_of_cell? _ _ h0, fun i hi => by
    have : i = 0 ∨ i = 1 ∨ i = 2 := by simp at hi; omega
    rcases this with rfl | rfl | rfl
    · exact h0
    · exact h1
    · exact h2⟩
  have := commonOf_c (some ⟨b, 0, none⟩) 3 [x, y, z] (by simp) (by intro u hu; simp at hu; omega) w hI
  rw [gcL_three] at this
  exact this
/-- Is this a valid rational point? -/
def ratB (x y z : Int) : Bool := inB x (-1000000000000) 1000000000000 && inB y (-1000000000000) 1000000000000 && inB z 1 1000000000000 && decide (Gc (Gc x y) z = 1)
set_option maxHeartbeats 400000 in
theorem l25Is_c (x y z : Int) (w : World) :
    Calls Try.prog 92 #[.agg #[.int .i64 x, .int .i64 y, .int .i64 z]] w fun e w' => e = .returned (.bool (ratB x y z)) ∧ Below w.heap.size w w' := by
  by_cases h1 : inB x (-1000000000000) 1000000000000 = true
  · by_cases h2 : inB y (-1000000000000) 1000000000000 = true
    · by_cases h3 : inB z 1 1000000000000 = true
      · obtain ⟨a1, a2⟩ := inB_iff.1 h1
        obtain ⟨a3, a4⟩ := inB_iff.1 h2
        obtain ⟨a5, a6⟩ := inB_iff.1 h3
        have g1 := Gc_nonneg x y
        have g2 := Gc_le x y 1000000000000 a1 a2 a3 a4
        have HV := Lib.hid (show ratB x y z = (Gc (Gc x y) z == 1) by simp only [ratB, h1, h2, h3, Bool.true_and]; exact (Bool.beq_eq_decide_eq _ _).symm)
        go_enter Try.func92, Try.ntmps92
        go_wp2
        go_quiet ((first | (go_at_call_of 106 (Value.int IntKind.i64 x); exact quiet_left (as_b h1 (l01Is_c _ _))) | (go_at_call_of 106 (Value.int IntKind.i64 y); exact quiet_left (as_b h2 (l01Is_c _ _))) | (go_at_call 78; exact quiet_left (as_b h3 (l01In_c _ _ _ _))) | (go_at_call 152; with_reducible exact quiet_d (l01Gcd_c _ _ (by omega) (by omega) (by omega) (by omega) _))))
        go_wp2
        go_ret
        exact ⟨ret_bool HV.out.symm, by repeat (with_reducible first | exact Below.refl _ _ | assumption | refine Bel.alloc ?_ _ | refine Bel.step (by assumption) ?_ | refine Below.drew ?_ | refine Bel.drewN ?_ _ | refine Below.setCell ?_ (by first | exact Nat.le_refl _ | omega | (simp; done) | (simp; omega)) _)⟩
      · have h3' : inB z 1 1000000000000 = false := by simpa using h3
        clear h3
        go_enter Try.func92, Try.ntmps92
        go_wp2
        go_quiet ((first | (go_at_call_of 106 (Value.int IntKind.i64 x); exact quiet_left (as_b h1 (l01Is_c _ _))) | (go_at_call_of 106 (Value.int IntKind.i64 y); exact quiet_left (as_b h2 (l01Is_c _ _))) | (go_at_call 78; exact quiet_left (as_b h3' (l01In_c _ _ _ _)))))
        go_wp2
        go_ret
        exact ⟨ret_bool (by simp [ratB, h3']), by repeat (with_reducible first | exact Below.refl _ _ | assumption | refine Bel.alloc ?_ _ | refine Bel.step (by assumption) ?_ | refine Below.drew ?_ | refine Bel.drewN ?_ _ | refine Below.setCell ?_ (by first | exact Nat.le_refl _ | omega | (simp; done) | (simp; omega)) _)⟩
    · have h2' : inB y (-1000000000000) 1000000000000 = false := by simpa using h2
      clear h2
      go_enter Try.func92, Try.ntmps92
      go_wp2
      go_quiet ((first | (go_at_call_of 106 (Value.int IntKind.i64 x); exact quiet_left (as_b h1 (l01Is_c _ _))) | (go_at_call_of 106 (Value.int IntKind.i64 y); exact quiet_left (as_b h2' (l01Is_c _ _)))))
      go_wp2
      go_ret
      exact ⟨ret_bool (by simp [ratB, h2']), by repeat (with_reducible first | exact Below.refl _ _ | assumption | refine Bel.alloc ?_ _ | refine Bel.step (by assumption) ?_ | refine Below.drew ?_ | refine Bel.drewN ?_ _ | refine Below.setCell ?_ (by first | exact Nat.le_refl _ | omega | (simp; done) | (simp; omega)) _)⟩
  · have h1' : inB x (-1000000000000) 1000000000000 = false := by simpa using h1
    clear h1
    go_enter Try.func92, Try.ntmps92
    go_wp2
    go_quiet ((first | (go_at_call 106; exact quiet_left (as_b h1' (l01Is_c _ _)))))
    go_wp2
    go_ret
    exact ⟨ret_bool (by simp [ratB, h1']), by repeat (with_reducible first | exact Below.refl _ _ | assumption | refine Bel.alloc ?_ _ | refine Bel.step (by assumption) ?_ | refine Below.drew ?_ | refine Bel.drewN ?_ _ | refine Below.setCell ?_ (by first | exact Nat.le_refl _ | omega | (simp; done) | (simp; omega)) _)⟩
theorem isRational_c (x y z : Int) (w : World) :
    Calls Try.prog 90 #[.agg #[.int .i64 x, .int .i64 y, .int .i64 z]] w fun e w' => e = .returned (.bool (ratB x y z)) ∧ Below w.heap.size w w' := by
  by_cases h1 : inB x (-1000000000000) 1000000000000 = true
  · by_cases h2 : inB y (-1000000000000) 1000000000000 = true
    · by_cases h3 : inB z (-1000000000000) 1000000000000 = true
      · obtain ⟨a1, a2⟩ := inB_iff.1 h1
        obtain ⟨a3, a4⟩ := inB_iff.1 h2
        obtain ⟨a5, a6⟩ := inB_iff.1 h3
        by_cases h4 : 0 < z
        · have h5 : inB z 1 1000000000000 = true := inB_iff.2 ⟨by omega, a6⟩
          have HV := Lib.hid (show ratB x y z = (Gc (Gc x y) z == 1) by simp only [ratB, h1, h2, h5, Bool.true_and]; exact (Bool.beq_eq_decide_eq _ _).symm)
          clear h5
          go_enter Try.func90, Try.ntmps90
          go_wp2_with (first | (go_at_call 105; refine (isValue_c _ _).mono ?_; rintro e w' ⟨rfl, rfl⟩) | (go_at_call 151; refine (toB (commonOf3_c _ x y z (by omega) (by omega) (by omega) (by omega) (by omega) (by omega) _ (by simp [go_sem]) (by simp [go_sem]) (by simp [go_sem]))).mono ?_; rintro e w1 ⟨rfl, hb1⟩; obtain ⟨hc1, hf1, hz1⟩ := bel hb1; (try simp only [World.size_drew, World.cell?_drew, World.frozen?_drew] at hc1 hf1 hz1); (try simp only [World.heap_drewN, World.cell?_drewN, World.frozen?_drewN] at hc1 hf1 hz1); (try have hl1 : w.heap.size < w1.heap.size := by (have hq := hb1.size; (try simp at hq); omega)); (try have hm1 : w.heap.size + 1 < w1.heap.size := by (have hq := hb1.size; (try simp at hq); omega)); (try have hn1 : w.heap.size + 1 + 1 < w1.heap.size := by (have hq := hb1.size; (try simp at hq); omega)); (try have hp1 : b < w1.heap.size := by (have hq := hb1.size; (try simp at hq); omega)); (try have ho1 : b' < w1.heap.size := by (have hq := hb1.size; (try simp at hq); omega))))
          go_ret
          exact ⟨ret_bool HV.out.symm, by repeat (with_reducible first | exact Below.refl _ _ | assumption | refine Bel.alloc ?_ _ | refine Bel.step (by assumption) ?_ | refine Below.drew ?_ | refine Bel.drewN ?_ _ | refine Below.setCell ?_ (by first | exact Nat.le_refl _ | omega | (simp; done) | (simp; omega)) _)⟩
        · have h5 : inB z 1 1000000000000 = false := inB_not.2 (by omega)
          have HV := Lib.hid (show ratB x y z = false by simp [ratB, h5])
          clear h5
          go_enter Try.func90, Try.ntmps90
          go_wp2_with (first | (go_at_call 105; refine (isValue_c _ _).mono ?_; rintro e w' ⟨rfl, rfl⟩))
          go_ret
          exact ⟨ret_bool HV.out.symm, by repeat (with_reducible first | exact Below.refl _ _ | assumption | refine Bel.alloc ?_ _ | refine Bel.step (by assumption) ?_ | refine Below.drew ?_ | refine Bel.drewN ?_ _ | refine Below.setCell ?_ (by first | exact Nat.le_refl _ | omega | (simp; done) | (simp; omega)) _)⟩
      · have h3' : inB z (-1000000000000) 1000000000000 = false := by simpa using h3
        have h5 : inB z 1 1000000000000 = false := inB_not.2 (by have := inB_not.1 h3'; omega)
        have HV := Lib.hid (show ratB x y z = false by simp [ratB, h5])
        clear h3 h5
        go_enter Try.func90, Try.ntmps90
        go_wp2_with (first | (go_at_call 105; refine (isValue_c _ _).mono ?_; rintro e w' ⟨rfl, rfl⟩))
        go_ret
        exact ⟨ret_bool HV.out.symm, by repeat (with_reducible first | exact Below.refl _ _ | assumption | refine Bel.alloc ?_ _ | refine Bel.step (by assumption) ?_ | refine Below.drew ?_ | refine Bel.drewN ?_ _ | refine Below.setCell ?_ (by first | exact Nat.le_refl _ | omega | (simp; done) | (simp; omega)) _)⟩
    · have h2' : inB y (-1000000000000) 1000000000000 = false := by simpa using h2
      clear h2
      go_enter Try.func90, Try.ntmps90
      go_wp2_with (first | (go_at_call 105; refine (isValue_c _ _).mono ?_; rintro e w' ⟨rfl, rfl⟩))
      go_ret
      exact ⟨ret_bool (by simp [ratB, h2']), by repeat (with_reducible first | exact Below.refl _ _ | assumption | refine Bel.alloc ?_ _ | refine Bel.step (by assumption) ?_ | refine Below.drew ?_ | refine Bel.drewN ?_ _ | refine Below.setCell ?_ (by first | exact Nat.le_refl _ | omega | (simp; done) | (simp; omega)) _)⟩
  · have h1' : inB x (-1000000000000) 1000000000000 = false := by simpa using h1
    clear h1
    go_enter Try.func90, Try.ntmps90
    go_wp2_with (first | (go_at_call 105; refine (isValue_c _ _).mono ?_; rintro e w' ⟨rfl, rfl⟩))
    go_ret
    exact ⟨ret_bool (by simp [ratB, h1']), by repeat (with_reducible first | exact Below.refl _ _ | assumption | refine Bel.alloc ?_ _ | refine Bel.step (by assumption) ?_ | refine Below.drew ?_ | refine Bel.drewN ?_ _ | refine Below.setCell ?_ (by first | exact Nat.le_refl _ | omega | (simp; done) | (simp; omega)) _)⟩
/-- A number of a fraction, reduced. -/
def redQ (x y z u : Int) : Int := if z < 0 then -(u.tdiv (Gc (Gc x y) z)) else u.tdiv (Gc (Gc x y) z)
def redC (x y z : Int) : Int := if z = 0 then 5 else if ratB (redQ x y z x) (redQ x y z y) (redQ x y z z) then 0 else 3
def redV (x y z u : Int) : Int := if redC x y z = 0 then redQ x y z u else 0
theorem redC_0 {x y z : Int} (hz : z ≠ 0) (h : ratB (redQ x y z x) (redQ x y z y) (redQ x y z z) = true) : redC x y z = 0 ∧ ∀ u, redV x y z u = redQ x y z u := by
  have : redC x y z = 0 := by simp [redC, hz, h]
  exact ⟨this, fun u => by simp [redV, this]⟩
theorem redC_3 {x y z : Int} (hz : z ≠ 0) (h : ratB (redQ x y z x) (redQ x y z y) (redQ x y z z) = false) : redC x y z = 3 ∧ ∀ u, redV x y z u = 0 := by
  have : redC x y z = 3 := by simp [redC, hz, h]
  exact ⟨this, fun u => by simp [redV, this]⟩
theorem redC_5 {x y : Int} : redC x y 0 = 5 ∧ ∀ u, redV x y 0 u = 0 := by
  have : redC x y 0 = 5 := by simp [redC]
  exact ⟨this, fun u => by simp [redV, this]⟩
set_option maxHeartbeats 800000 in
theorem reduced_c (x y z : Int) (hx1 : -4000000000000000 ≤ x) (hx2 : x ≤ 4000000000000000) (hy1 : -4000000000000000 ≤ y) (hy2 : y ≤ 4000000000000000) (hz1 : -4000000000000000 ≤ z) (hz2 : z ≤ 4000000000000000) (w : World) :
    Calls Try.prog 91 #[.int .i64 x, .int .i64 y, .int .i64 z] w fun e w' => e = .returned (.tuple #[.agg #[.int .i64 (redV x y z x), .int .i64 (redV x y z y), .int .i64 (redV x y z z)], .int .i64 (redC x y z)]) ∧ Below w.heap.size w w' := by
  by_cases hz : z = 0
  · subst hz
    have H := Lib.hid (redC_5 (x := x) (y := y))
    go_enter Try.func91, Try.ntmps91
    go_wp2
    refine bodyPost_ret (v := .tuple #[.agg #[.int .i64 0, .int .i64 0, .int .i64 0], .int .i64 5]) (by simp [results, Try.results91, go_sem]) rfl ⟨by rw [H.out.1, H.out.2, H.out.2, H.out.2], by repeat (with_reducible first | exact Below.refl _ _ | assumption | refine Bel.alloc ?_ _ | refine Bel.step (by assumption) ?_ | refine Below.drew ?_ | refine Bel.drewN ?_ _ | refine Below.setCell ?_ (by first | exact Nat.le_refl _ | omega | (simp; done) | (simp; omega)) _)⟩
  · have hg : Gc (Gc x y) z ≠ 0 := fun h => hz (Gc_eq_zero h).2
    have g1 := Gc_nonneg x y
    have g2 := Gc_le x y 4000000000000000 hx1 hx2 hy1 hy2
    have g3 := Gc_nonneg (Gc x y) z
    have g4 := Gc_le (Gc x y) z 4000000000000000 (by omega) g2 hz1 hz2
    obtain ⟨t1, t2⟩ := tdiv_bd x (Gc (Gc x y) z) 4000000000000000 hx1 hx2
    obtain ⟨t3, t4⟩ := tdiv_bd y (Gc (Gc x y) z) 4000000000000000 hy1 hy2
    obtain ⟨t5, t6⟩ := tdiv_bd z (Gc (Gc x y) z) 4000000000000000 hz1 hz2
    by_cases hneg : z < 0
    · have hQ : ∀ u, redQ x y z u = -(u.tdiv (Gc (Gc x y) z)) := fun u => by simp [redQ, hneg]
      have HQ := Lib.hid hQ
      by_cases hr : ratB (-(x.tdiv (Gc (Gc x y) z))) (-(y.tdiv (Gc (Gc x y) z))) (-(z.tdiv (Gc (Gc x y) z))) = true
      · have H := Lib.hid (redC_0 hz (by rw [hQ, hQ, hQ]; exact hr))
        clear hQ
        go_enter Try.func91, Try.ntmps91
        go_wp2_with (first | (go_at_call 151; refine (toB (commonOf3_c _ x y z (by omega) (by omega) (by omega) (by omega) (by omega) (by omega) _ (by simp [go_sem]) (by simp [go_sem]) (by simp [go_sem]))).mono ?_; rintro e w1 ⟨rfl, hb1⟩; obtain ⟨hc1, hf1, hz1⟩ := bel hb1; (try simp only [World.size_drew, World.cell?_drew, World.frozen?_drew] at hc1 hf1 hz1); (try simp only [World.heap_drewN, World.cell?_drewN, World.frozen?_drewN] at hc1 hf1 hz1); (try have hl1 : w.heap.size < w1.heap.size := by (have hq := hb1.size; (try simp at hq); omega)); (try have hm1 : w.heap.size + 1 < w1.heap.size := by (have hq := hb1.size; (try simp at hq); omega)); (try have hn1 : w.heap.size + 1 + 1 < w1.heap.size := by (have hq := hb1.size; (try simp at hq); omega)); (try have hp1 : b < w1.heap.size := by (have hq := hb1.size; (try simp at hq); omega)); (try have ho1 : b' < w1.heap.size := by (have hq := hb1.size; (try simp at hq); omega))))
        go_region_held3 (fun _ => True) (trivial) (fail)
        all_goals
          go_wp2_with (first | (go_at_call 90; refine (isRational_c _ _ _ _).mono ?_; rintro e w1 ⟨rfl, hb1⟩; obtain ⟨hc1, hf1, hz1⟩ := bel hb1; (try simp only [World.size_drew, World.cell?_drew, World.frozen?_drew] at hc1 hf1 hz1); (try simp only [World.heap_drewN, World.cell?_drewN, World.frozen?_drewN] at hc1 hf1 hz1); (try have hl1 : w.heap.size < w1.heap.size := by (have hq := hb1.size; (try simp at hq); omega)); (try have hm1 : w.heap.size + 1 < w1.heap.size := by (have hq := hb1.size; (try simp at hq); omega)); (try have hn1 : w.heap.size + 1 + 1 < w1.heap.size := by (have hq := hb1.size; (try simp at hq); omega)); (try have hp1 : b < w1.heap.size := by (have hq := hb1.size; (try simp at hq); omega)); (try have ho1 : b' < w1.heap.size := by (have hq := hb1.size; (try simp at hq); omega))))
          have r0 : w1.cell? ⟨w.heap.size, 0, none⟩ = some (.int .i64 0) := by simp [go_sem, *]
          have r1 : w1.cell? ⟨w.heap.size, 1, none⟩ = some (.int .i64 0) := by simp [go_sem, *]
          have r2 : w1.cell? ⟨w.heap.size, 2, none⟩ = some (.int .i64 0) := by simp [go_sem, *]
          refine bodyPost_ret (v := .tuple #[.agg #[.int .i64 (-(x.tdiv (Gc (Gc x y) z))), .int .i64 (-(y.tdiv (Gc (Gc x y) z))), .int .i64 (-(z.tdiv (Gc (Gc x y) z)))], .int .i64 0]) (by simp [results, Try.results91, go_sem, r0, r1, r2]) rfl ⟨by rw [H.out.1, H.out.2, H.out.2, H.out.2, HQ.out, HQ.out, HQ.out], by repeat (with_reducible first | exact Below.refl _ _ | assumption | refine Bel.alloc ?_ _ | refine Bel.step (by assumption) ?_ | refine Below.drew ?_ | refine Bel.drewN ?_ _ | refine Below.setCell ?_ (by first | exact Nat.le_refl _ | omega | (simp; done) | (simp; omega)) _)⟩
      · have hr' : ratB (-(x.tdiv (Gc (Gc x y) z))) (-(y.tdiv (Gc (Gc x y) z))) (-(z.tdiv (Gc (Gc x y) z))) = false := by simpa using hr
        have H := Lib.hid (redC_3 hz (by rw [hQ, hQ, hQ]; exact hr'))
        clear hQ hr
        go_enter Try.func91, Try.ntmps91
        go_wp2_with (first | (go_at_call 151; refine (toB (commonOf3_c _ x y z (by omega) (by omega) (by omega) (by omega) (by omega) (by omega) _ (by simp [go_sem]) (by simp [go_sem]) (by simp [go_sem]))).mono ?_; rintro e w1 ⟨rfl, hb1⟩; obtain ⟨hc1, hf1, hz1⟩ := bel hb1; (try simp only [World.size_drew, World.cell?_drew, World.frozen?_drew] at hc1 hf1 hz1); (try simp only [World.heap_drewN, World.cell?_drewN, World.frozen?_drewN] at hc1 hf1 hz1); (try have hl1 : w.heap.size < w1.heap.size := by (have hq := hb1.size; (try simp at hq); omega)); (try have hm1 : w.heap.size + 1 < w1.heap.size := by (have hq := hb1.size; (try simp at hq); omega)); (try have hn1 : w.heap.size + 1 + 1 < w1.heap.size := by (have hq := hb1.size; (try simp at hq); omega)); (try have hp1 : b < w1.heap.size := by (have hq := hb1.size; (try simp at hq); omega)); (try have ho1 : b' < w1.heap.size := by (have hq := hb1.size; (try simp at hq); omega))))
        go_region_held3 (fun _ => True) (trivial) (fail)
        all_goals
          go_wp2_with (first | (go_at_call 90; refine (isRational_c _ _ _ _).mono ?_; rintro e w1 ⟨rfl, hb1⟩; obtain ⟨hc1, hf1, hz1⟩ := bel hb1; (try simp only [World.size_drew, World.cell?_drew, World.frozen?_drew] at hc1 hf1 hz1); (try simp only [World.heap_drewN, World.cell?_drewN, World.frozen?_drewN] at hc1 hf1 hz1); (try have hl1 : w.heap.size < w1.heap.size := by (have hq := hb1.size; (try simp at hq); omega)); (try have hm1 : w.heap.size + 1 < w1.heap.size := by (have hq := hb1.size; (try simp at hq); omega)); (try have hn1 : w.heap.size + 1 + 1 < w1.heap.size := by (have hq := hb1.size; (try simp at hq); omega)); (try have hp1 : b < w1.heap.size := by (have hq := hb1.size; (try simp at hq); omega)); (try have ho1 : b' < w1.heap.size := by (have hq := hb1.size; (try simp at hq); omega))))
          have r0 : w1.cell? ⟨w.heap.size, 0, none⟩ = some (.int .i64 0) := by simp [go_sem, *]
          have r1 : w1.cell? ⟨w.heap.size, 1, none⟩ = some (.int .i64 0) := by simp [go_sem, *]
          have r2 : w1.cell? ⟨w.heap.size, 2, none⟩ = some (.int .i64 0) := by simp [go_sem, *]
          refine bodyPost_ret (v := .tuple #[.agg #[.int .i64 0, .int .i64 0, .int .i64 0], .int .i64 3]) (by simp [results, Try.results91, go_sem, r0, r1, r2]) rfl ⟨by rw [H.out.1, H.out.2, H.out.2, H.out.2], by repeat (with_reducible first | exact Below.refl _ _ | assumption | refine Bel.alloc ?_ _ | refine Bel.step (by assumption) ?_ | refine Below.drew ?_ | refine Bel.drewN ?_ _ | refine Below.setCell ?_ (by first | exact Nat.le_refl _ | omega | (simp; done) | (simp; omega)) _)⟩
    · have hQ : ∀ u, redQ x y z u = u.tdiv (Gc (Gc x y) z) := fun u => by simp [redQ, hneg]
      have HQ := Lib.hid hQ
      by_cases hr : ratB (x.tdiv (Gc (Gc x y) z)) (y.tdiv (Gc (Gc x y) z)) (z.tdiv (Gc (Gc x y) z)) = true
      · have H := Lib.hid (redC_0 hz (by rw [hQ, hQ, hQ]; exact hr))
        clear hQ
        go_enter Try.func91, Try.ntmps91
        go_wp2_with (first | (go_at_call 151; refine (toB (commonOf3_c _ x y z (by omega) (by omega) (by omega) (by omega) (by omega) (by omega) _ (by simp [go_sem]) (by simp [go_sem]) (by simp [go_sem]))).mono ?_; rintro e w1 ⟨rfl, hb1⟩; obtain ⟨hc1, hf1, hz1⟩ := bel hb1; (try simp only [World.size_drew, World.cell?_drew, World.frozen?_drew] at hc1 hf1 hz1); (try simp only [World.heap_drewN, World.cell?_drewN, World.frozen?_drewN] at hc1 hf1 hz1); (try have hl1 : w.heap.size < w1.heap.size := by (have hq := hb1.size; (try simp at hq); omega)); (try have hm1 : w.heap.size + 1 < w1.heap.size := by (have hq := hb1.size; (try simp at hq); omega)); (try have hn1 : w.heap.size + 1 + 1 < w1.heap.size := by (have hq := hb1.size; (try simp at hq); omega)); (try have hp1 : b < w1.heap.size := by (have hq := hb1.size; (try simp at hq); omega)); (try have ho1 : b' < w1.heap.size := by (have hq := hb1.size; (try simp at hq); omega))))
        go_region_held3 (fun _ => True) (trivial) (fail)
        all_goals
          go_wp2_with (first | (go_at_call 90; refine (isRational_c _ _ _ _).mono ?_; rintro e w1 ⟨rfl, hb1⟩; obtain ⟨hc1, hf1, hz1⟩ := bel hb1; (try simp only [World.size_drew, World.cell?_drew, World.frozen?_drew] at hc1 hf1 hz1); (try simp only [World.heap_drewN, World.cell?_drewN, World.frozen?_drewN] at hc1 hf1 hz1); (try have hl1 : w.heap.size < w1.heap.size := by (have hq := hb1.size; (try simp at hq); omega)); (try have hm1 : w.heap.size + 1 < w1.heap.size := by (have hq := hb1.size; (try simp at hq); omega)); (try have hn1 : w.heap.size + 1 + 1 < w1.heap.size := by (have hq := hb1.size; (try simp at hq); omega)); (try have hp1 : b < w1.heap.size := by (have hq := hb1.size; (try simp at hq); omega)); (try have ho1 : b' < w1.heap.size := by (have hq := hb1.size; (try simp at hq); omega))))
          have r0 : w1.cell? ⟨w.heap.size, 0, none⟩ = some (.int .i64 0) := by simp [go_sem, *]
          have r1 : w1.cell? ⟨w.heap.size, 1, none⟩ = some (.int .i64 0) := by simp [go_sem, *]
          have r2 : w1.cell? ⟨w.heap.size, 2, none⟩ = some (.int .i64 0) := by simp [go_sem, *]
          refine bodyPost_ret (v := .tuple #[.agg #[.int .i64 (x.tdiv (Gc (Gc x y) z)), .int .i64 (y.tdiv (Gc (Gc x y) z)), .int .i64 (z.tdiv (Gc (Gc x y) z))], .int .i64 0]) (by simp [results, Try.results91, go_sem, r0, r1, r2]) rfl ⟨by rw [H.out.1, H.out.2, H.out.2, H.out.2, HQ.out, HQ.out, HQ.out], by repeat (with_reducible first | exact Below.refl _ _ | assumption | refine Bel.alloc ?_ _ | refine Bel.step (by assumption) ?_ | refine Below.drew ?_ | refine Bel.drewN ?_ _ | refine Below.setCell ?_ (by first | exact Nat.le_refl _ | omega | (simp; done) | (simp; omega)) _)⟩
      · have hr' : ratB (x.tdiv (Gc (Gc x y) z)) (y.tdiv (Gc (Gc x y) z)) (z.tdiv (Gc (Gc x y) z)) = false := by simpa using hr
        have H := Lib.hid (redC_3 hz (by rw [hQ, hQ, hQ]; exact hr'))
        clear hQ hr
        go_enter Try.func91, Try.ntmps91
        go_wp2_with (first | (go_at_call 151; refine (toB (commonOf3_c _ x y z (by omega) (by omega) (by omega) (by omega) (by omega) (by omega) _ (by simp [go_sem]) (by simp [go_sem]) (by simp [go_sem]))).mono ?_; rintro e w1 ⟨rfl, hb1⟩; obtain ⟨hc1, hf1, hz1⟩ := bel hb1; (try simp only [World.size_drew, World.cell?_drew, World.frozen?_drew] at hc1 hf1 hz1); (try simp only [World.heap_drewN, World.cell?_drewN, World.frozen?_drewN] at hc1 hf1 hz1); (try have hl1 : w.heap.size < w1.heap.size := by (have hq := hb1.size; (try simp at hq); omega)); (try have hm1 : w.heap.size + 1 < w1.heap.size := by (have hq := hb1.size; (try simp at hq); omega)); (try have hn1 : w.heap.size + 1 + 1 < w1.heap.size := by (have hq := hb1.size; (try simp at hq); omega)); (try have hp1 : b < w1.heap.size := by (have hq := hb1.size; (try simp at hq); omega)); (try have ho1 : b' < w1.heap.size := by (have hq := hb1.size; (try simp at hq); omega))))
        go_region_held3 (fun _ => True) (trivial) (fail)
        all_goals
          go_wp2_with (first | (go_at_call 90; refine (isRational_c _ _ _ _).mono ?_; rintro e w1 ⟨rfl, hb1⟩; obtain ⟨hc1, hf1, hz1⟩ := bel hb1; (try simp only [World.size_drew, World.cell?_drew, World.frozen?_drew] at hc1 hf1 hz1); (try simp only [World.heap_drewN, World.cell?_drewN, World.frozen?_drewN] at hc1 hf1 hz1); (try have hl1 : w.heap.size < w1.heap.size := by (have hq := hb1.size; (try simp at hq); omega)); (try have hm1 : w.heap.size + 1 < w1.heap.size := by (have hq := hb1.size; (try simp at hq); omega)); (try have hn1 : w.heap.size + 1 + 1 < w1.heap.size := by (have hq := hb1.size; (try simp at hq); omega)); (try have hp1 : b < w1.heap.size := by (have hq := hb1.size; (try simp at hq); omega)); (try have ho1 : b' < w1.heap.size := by (have hq := hb1.size; (try simp at hq); omega))))
          have r0 : w1.cell? ⟨w.heap.size, 0, none⟩ = some (.int .i64 0) := by simp [go_sem, *]
          have r1 : w1.cell? ⟨w.heap.size, 1, none⟩ = some (.int .i64 0) := by simp [go_sem, *]
          have r2 : w1.cell? ⟨w.heap.size, 2, none⟩ = some (.int .i64 0) := by simp [go_sem, *]
          refine bodyPost_ret (v := .tuple #[.agg #[.int .i64 0, .int .i64 0, .int .i64 0], .int .i64 3]) (by simp [results, Try.results91, go_sem, r0, r1, r2]) rfl ⟨by rw [H.out.1, H.out.2, H.out.2, H.out.2], by repeat (with_reducible first | exact Below.refl _ _ | assumption | refine Bel.alloc ?_ _ | refine Bel.step (by assumption) ?_ | refine Below.drew ?_ | refine Bel.drewN ?_ _ | refine Below.setCell ?_ (by first | exact Nat.le_refl _ | omega | (simp; done) | (simp; omega)) _)⟩
set_option maxHeartbeats 800000 in
theorem l25Make_c (x y z : Int) (hx1 : -4000000000000000 ≤ x) (hx2 : x ≤ 4000000000000000) (hy1 : -4000000000000000 ≤ y) (hy2 : y ≤ 4000000000000000) (hz1 : -4000000000000000 ≤ z) (hz2 : z ≤ 4000000000000000) (w : World) :
    Calls Try.prog 94 #[.int .i64 x, .int .i64 y, .int .i64 z] w fun e w' => e = .returned (.tuple #[.agg #[.int .i64 (redV x y z x), .int .i64 (redV x y z y), .int .i64 (redV x y z z)], .int .i64 (redC x y z)]) ∧ Below w.heap.size w w' := by
  by_cases hz : z = 0
  · subst hz
    have H := Lib.hid (redC_5 (x := x) (y := y))
    go_enter Try.func94, Try.ntmps94
    go_wp2
    refine bodyPost_ret (v := .tuple #[.agg #[.int .i64 0, .int .i64 0, .int .i64 0], .int .i64 5]) (by simp [results, Try.results94, go_sem]) rfl ⟨by rw [H.out.1, H.out.2, H.out.2, H.out.2], by repeat (with_reducible first | exact Below.refl _ _ | assumption | refine Bel.alloc ?_ _ | refine Bel.step (by assumption) ?_ | refine Below.drew ?_ | refine Bel.drewN ?_ _ | refine Below.setCell ?_ (by first | exact Nat.le_refl _ | omega | (simp; done) | (simp; omega)) _)⟩
  · have hg : Gc (Gc x y) z ≠ 0 := fun h => hz (Gc_eq_zero h).2
    have g1 := Gc_nonneg x y
    have g2 := Gc_le x y 4000000000000000 hx1 hx2 hy1 hy2
    have g3 := Gc_nonneg (Gc x y) z
    have g4 := Gc_le (Gc x y) z 4000000000000000 (by omega) g2 hz1 hz2
    obtain ⟨t1, t2⟩ := tdiv_bd x (Gc (Gc x y) z) 4000000000000000 hx1 hx2
    obtain ⟨t3, t4⟩ := tdiv_bd y (Gc (Gc x y) z) 4000000000000000 hy1 hy2
    obtain ⟨t5, t6⟩ := tdiv_bd z (Gc (Gc x y) z) 4000000000000000 hz1 hz2
    by_cases hneg : z < 0
    · have hQ : ∀ u, redQ x y z u = -(u.tdiv (Gc (Gc x y) z)) := fun u => by simp [redQ, hneg]
      have HQ := Lib.hid hQ
      by_cases hr : ratB (-(x.tdiv (Gc (Gc x y) z))) (-(y.tdiv (Gc (Gc x y) z))) (-(z.tdiv (Gc (Gc x y) z))) = true
      · have H := Lib.hid (redC_0 hz (by rw [hQ, hQ, hQ]; exact hr))
        clear hQ
        go_enter Try.func94, Try.ntmps94
        go_wp2_with (first | (go_at_call 152; refine (toB (l01Gcd_c _ _ (by omega) (by omega) (by omega) (by omega) _)).mono ?_; rintro e w1 ⟨rfl, hb1⟩; obtain ⟨hc1, hf1, hz1⟩ := bel hb1; (try simp only [World.size_drew, World.cell?_drew, World.frozen?_drew] at hc1 hf1 hz1); (try simp only [World.heap_drewN, World.cell?_drewN, World.frozen?_drewN] at hc1 hf1 hz1); (try have hl1 : w.heap.size < w1.heap.size := by (have hq := hb1.size; (try simp at hq); omega)); (try have hm1 : w.heap.size + 1 < w1.heap.size := by (have hq := hb1.size; (try simp at hq); omega)); (try have hn1 : w.heap.size + 1 + 1 < w1.heap.size := by (have hq := hb1.size; (try simp at hq); omega)); (try have hp1 : b < w1.heap.size := by (have hq := hb1.size; (try simp at hq); omega)); (try have ho1 : b' < w1.heap.size := by (have hq := hb1.size; (try simp at hq); omega))))
        go_region_held3 (fun _ => True) (trivial) (fail)
        all_goals
          go_wp2_with (first | (go_at_call 92; refine (l25Is_c _ _ _ _).mono ?_; rintro e w1 ⟨rfl, hb1⟩; obtain ⟨hc1, hf1, hz1⟩ := bel hb1; (try simp only [World.size_drew, World.cell?_drew, World.frozen?_drew] at hc1 hf1 hz1); (try simp only [World.heap_drewN, World.cell?_drewN, World.frozen?_drewN] at hc1 hf1 hz1); (try have hl1 : w.heap.size < w1.heap.size := by (have hq := hb1.size; (try simp at hq); omega)); (try have hm1 : w.heap.size + 1 < w1.heap.size := by (have hq := hb1.size; (try simp at hq); omega)); (try have hn1 : w.heap.size + 1 + 1 < w1.heap.size := by (have hq := hb1.size; (try simp at hq); omega)); (try have hp1 : b < w1.heap.size := by (have hq := hb1.size; (try simp at hq); omega)); (try have ho1 : b' < w1.heap.size := by (have hq := hb1.size; (try simp at hq); omega))))
          have r0 : w1.cell? ⟨w.heap.size, 0, none⟩ = some (.int .i64 0) := by simp [go_sem, *]
          have r1 : w1.cell? ⟨w.heap.size, 1, none⟩ = some (.int .i64 0) := by simp [go_sem, *]
          have r2 : w1.cell? ⟨w.heap.size, 2, none⟩ = some (.int .i64 0) := by simp [go_sem, *]
          refine bodyPost_ret (v := .tuple #[.agg #[.int .i64 (-(x.tdiv (Gc (Gc x y) z))), .int .i64 (-(y.tdiv (Gc (Gc x y) z))), .int .i64 (-(z.tdiv (Gc (Gc x y) z)))], .int .i64 0]) (by simp [results, Try.results94, go_sem, r0, r1, r2]) rfl ⟨by rw [H.out.1, H.out.2, H.out.2, H.out.2, HQ.out, HQ.out, HQ.out], by repeat (with_reducible first | exact Below.refl _ _ | assumption | refine Bel.alloc ?_ _ | refine Bel.step (by assumption) ?_ | refine Below.drew ?_ | refine Bel.drewN ?_ _ | refine Below.setCell ?_ (by first | exact Nat.le_refl _ | omega | (simp; done) | (simp; omega)) _)⟩
      · have hr' : ratB (-(x.tdiv (Gc (Gc x y) z))) (-(y.tdiv (Gc (Gc x y) z))) (-(z.tdiv (Gc (Gc x y) z))) = false := by simpa using hr
        have H := Lib.hid (redC_3 hz (by rw [hQ, hQ, hQ]; exact hr'))
        clear hQ hr
        go_enter Try.func94, Try.ntmps94
        go_wp2_with (first | (go_at_call 152; refine (toB (l01Gcd_c _ _ (by omega) (by omega) (by omega) (by omega) _)).mono ?_; rintro e w1 ⟨rfl, hb1⟩; obtain ⟨hc1, hf1, hz1⟩ := bel hb1; (try simp only [World.size_drew, World.cell?_drew, World.frozen?_drew] at hc1 hf1 hz1); (try simp only [World.heap_drewN, World.cell?_drewN, World.frozen?_drewN] at hc1 hf1 hz1); (try have hl1 : w.heap.size < w1.heap.size := by (have hq := hb1.size; (try simp at hq); omega)); (try have hm1 : w.heap.size + 1 < w1.heap.size := by (have hq := hb1.size; (try simp at hq); omega)); (try have hn1 : w.heap.size + 1 + 1 < w1.heap.size := by (have hq := hb1.size; (try simp at hq); omega)); (try have hp1 : b < w1.heap.size := by (have hq := hb1.size; (try simp at hq); omega)); (try have ho1 : b' < w1.heap.size := by (have hq := hb1.size; (try simp at hq); omega))))
        go_region_held3 (fun _ => True) (trivial) (fail)
        all_goals
          go_wp2_with (first | (go_at_call 92; refine (l25Is_c _ _ _ _).mono ?_; rintro e w1 ⟨rfl, hb1⟩; obtain ⟨hc1, hf1, hz1⟩ := bel hb1; (try simp only [World.size_drew, World.cell?_drew, World.frozen?_drew] at hc1 hf1 hz1); (try simp only [World.heap_drewN, World.cell?_drewN, World.frozen?_drewN] at hc1 hf1 hz1); (try have hl1 : w.heap.size < w1.heap.size := by (have hq := hb1.size; (try simp at hq); omega)); (try have hm1 : w.heap.size + 1 < w1.heap.size := by (have hq := hb1.size; (try simp at hq); omega)); (try have hn1 : w.heap.size + 1 + 1 < w1.heap.size := by (have hq := hb1.size; (try simp at hq); omega)); (try have hp1 : b < w1.heap.size := by (have hq := hb1.size; (try simp at hq); omega)); (try have ho1 : b' < w1.heap.size := by (have hq := hb1.size; (try simp at hq); omega))))
          have r0 : w1.cell? ⟨w.heap.size, 0, none⟩ = some (.int .i64 0) := by simp [go_sem, *]
          have r1 : w1.cell? ⟨w.heap.size, 1, none⟩ = some (.int .i64 0) := by simp [go_sem, *]
          have r2 : w1.cell? ⟨w.heap.size, 2, none⟩ = some (.int .i64 0) := by simp [go_sem, *]
          refine bodyPost_ret (v := .tuple #[.agg #[.int .i64 0, .int .i64 0, .int .i64 0], .int .i64 3]) (by simp [results, Try.results94, go_sem, r0, r1, r2]) rfl ⟨by rw [H.out.1, H.out.2, H.out.2, H.out.2], by repeat (with_reducible first | exact Below.refl _ _ | assumption | refine Bel.alloc ?_ _ | refine Bel.step (by assumption) ?_ | refine Below.drew ?_ | refine Bel.drewN ?_ _ | refine Below.setCell ?_ (by first | exact Nat.le_refl _ | omega | (simp; done) | (simp; omega)) _)⟩
    · have hQ : ∀ u, redQ x y z u = u.tdiv (Gc (Gc x y) z) := fun u => by simp [redQ, hneg]
      have HQ := Lib.hid hQ
      by_cases hr : ratB (x.tdiv (Gc (Gc x y) z)) (y.tdiv (Gc (Gc x y) z)) (z.tdiv (Gc (Gc x y) z)) = true
      · have H := Lib.hid (redC_0 hz (by rw [hQ, hQ, hQ]; exact hr))
        clear hQ
        go_enter Try.func94, Try.ntmps94
        go_wp2_with (first | (go_at_call 152; refine (toB (l01Gcd_c _ _ (by omega) (by omega) (by omega) (by omega) _)).mono ?_; rintro e w1 ⟨rfl, hb1⟩; obtain ⟨hc1, hf1, hz1⟩ := bel hb1; (try simp only [World.size_drew, World.cell?_drew, World.frozen?_drew] at hc1 hf1 hz1); (try simp only [World.heap_drewN, World.cell?_drewN, World.frozen?_drewN] at hc1 hf1 hz1); (try have hl1 : w.heap.size < w1.heap.size := by (have hq := hb1.size; (try simp at hq); omega)); (try have hm1 : w.heap.size + 1 < w1.heap.size := by (have hq := hb1.size; (try simp at hq); omega)); (try have hn1 : w.heap.size + 1 + 1 < w1.heap.size := by (have hq := hb1.size; (try simp at hq); omega)); (try have hp1 : b < w1.heap.size := by (have hq := hb1.size; (try simp at hq); omega)); (try have ho1 : b' < w1.heap.size := by (have hq := hb1.size; (try simp at hq); omega))))
        go_region_held3 (fun _ => True) (trivial) (fail)
        all_goals
          go_wp2_with (first | (go_at_call 92; refine (l25Is_c _ _ _ _).mono ?_; rintro e w1 ⟨rfl, hb1⟩; obtain ⟨hc1, hf1, hz1⟩ := bel hb1; (try simp only [World.size_drew, World.cell?_drew, World.frozen?_drew] at hc1 hf1 hz1); (try simp only [World.heap_drewN, World.cell?_drewN, World.frozen?_drewN] at hc1 hf1 hz1); (try have hl1 : w.heap.size < w1.heap.size := by (have hq := hb1.size; (try simp at hq); omega)); (try have hm1 : w.heap.size + 1 < w1.heap.size := by (have hq := hb1.size; (try simp at hq); omega)); (try have hn1 : w.heap.size + 1 + 1 < w1.heap.size := by (have hq := hb1.size; (try simp at hq); omega)); (try have hp1 : b < w1.heap.size := by (have hq := hb1.size; (try simp at hq); omega)); (try have ho1 : b' < w1.heap.size := by (have hq := hb1.size; (try simp at hq); omega))))
          have r0 : w1.cell? ⟨w.heap.size, 0, none⟩ = some (.int .i64 0) := by simp [go_sem, *]
          have r1 : w1.cell? ⟨w.heap.size, 1, none⟩ = some (.int .i64 0) := by simp [go_sem, *]
          have r2 : w1.cell? ⟨w.heap.size, 2, none⟩ = some (.int .i64 0) := by simp [go_sem, *]
          refine bodyPost_ret (v := .tuple #[.agg #[.int .i64 (x.tdiv (Gc (Gc x y) z)), .int .i64 (y.tdiv (Gc (Gc x y) z)), .int .i64 (z.tdiv (Gc (Gc x y) z))], .int .i64 0]) (by simp [results, Try.results94, go_sem, r0, r1, r2]) rfl ⟨by rw [H.out.1, H.out.2, H.out.2, H.out.2, HQ.out, HQ.out, HQ.out], by repeat (with_reducible first | exact Below.refl _ _ | assumption | refine Bel.alloc ?_ _ | refine Bel.step (by assumption) ?_ | refine Below.drew ?_ | refine Bel.drewN ?_ _ | refine Below.setCell ?_ (by first | exact Nat.le_refl _ | omega | (simp; done) | (simp; omega)) _)⟩
      · have hr' : ratB (x.tdiv (Gc (Gc x y) z)) (y.tdiv (Gc (Gc x y) z)) (z.tdiv (Gc (Gc x y) z)) = false := by simpa using hr
        have H := Lib.hid (redC_3 hz (by rw [hQ, hQ, hQ]; exact hr'))
        clear hQ hr
        go_enter Try.func94, Try.ntmps94
        go_wp2_with (first | (go_at_call 152; refine (toB (l01Gcd_c _ _ (by omega) (by omega) (by omega) (by omega) _)).mono ?_; rintro e w1 ⟨rfl, hb1⟩; obtain ⟨hc1, hf1, hz1⟩ := bel hb1; (try simp only [World.size_drew, World.cell?_drew, World.frozen?_drew] at hc1 hf1 hz1); (try simp only [World.heap_drewN, World.cell?_drewN, World.frozen?_drewN] at hc1 hf1 hz1); (try have hl1 : w.heap.size < w1.heap.size := by (have hq := hb1.size; (try simp at hq); omega)); (try have hm1 : w.heap.size + 1 < w1.heap.size := by (have hq := hb1.size; (try simp at hq); omega)); (try have hn1 : w.heap.size + 1 + 1 < w1.heap.size := by (have hq := hb1.size; (try simp at hq); omega)); (try have hp1 : b < w1.heap.size := by (have hq := hb1.size; (try simp at hq); omega)); (try have ho1 : b' < w1.heap.size := by (have hq := hb1.size; (try simp at hq); omega))))
        go_region_held3 (fun _ => True) (trivial) (fail)
        all_goals
          go_wp2_with (first | (go_at_call 92; refine (l25Is_c _ _ _ _).mono ?_; rintro e w1 ⟨rfl, hb1⟩; obtain ⟨hc1, hf1, hz1⟩ := bel hb1; (try simp only [World.size_drew, World.cell?_drew, World.frozen?_drew] at hc1 hf1 hz1); (try simp only [World.heap_drewN, World.cell?_drewN, World.frozen?_drewN] at hc1 hf1 hz1); (try have hl1 : w.heap.size < w1.heap.size := by (have hq := hb1.size; (try simp at hq); omega)); (try have hm1 : w.heap.size + 1 < w1.heap.size := by (have hq := hb1.size; (try simp at hq); omega)); (try have hn1 : w.heap.size + 1 + 1 < w1.heap.size := by (have hq := hb1.size; (try simp at hq); omega)); (try have hp1 : b < w1.heap.size := by (have hq := hb1.size; (try simp at hq); omega)); (try have ho1 : b' < w1.heap.size := by (have hq := hb1.size; (try simp at hq); omega))))
          have r0 : w1.cell? ⟨w.heap.size, 0, none⟩ = some (.int .i64 0) := by simp [go_sem, *]
          have r1 : w1.cell? ⟨w.heap.size, 1, none⟩ = some (.int .i64 0) := by simp [go_sem, *]
          have r2 : w1.cell? ⟨w.heap.size, 2, none⟩ = some (.int .i64 0) := by simp [go_sem, *]
          refine bodyPost_ret (v := .tuple #[.agg #[.int .i64 0, .int .i64 0, .int .i64 0], .int .i64 3]) (by simp [results, Try.results94, go_sem, r0, r1, r2]) rfl ⟨by rw [H.out.1, H.out.2, H.out.2, H.out.2], by repeat (with_reducible first | exact Below.refl _ _ | assumption | refine Bel.alloc ?_ _ | refine Bel.step (by assumption) ?_ | refine Below.drew ?_ | refine Bel.drewN ?_ _ | refine Below.setCell ?_ (by first | exact Nat.le_refl _ | omega | (simp; done) | (simp; omega)) _)⟩
end Go.Proofs.Ythfphjbaglgacaa
