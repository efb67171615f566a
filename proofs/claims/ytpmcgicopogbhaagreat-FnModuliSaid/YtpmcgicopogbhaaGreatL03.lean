/- Chapter 3: logarithms by squaring. Conditions: as stated at each contract. -/
import Derived.Test.YtpmcgicopogbhaaGreatProg
import Derived.Test.YtpmcgicopogbhaaGreatBase
import Derived.Test.YtpmcgicopogbhaaGreatZy
import Derived.Test.YtpmcgicopogbhaaGreatL01
import Derived.Test.YtpmcgicopogbhaaGreatCp
import Derived.Test.YtpmcgicopogbhaaGreatL18
import Derived.WalkKit
import Derived.WalkSpells
import Derived.WalkLawsBesides
import Derived.Lib.Hide
import Derived.Deep.QuietTactic
import Derived.BigQuiet
import Derived.Deep.Draws
import Derived.Deep.RegionHeld3
namespace Go.Proofs.YtpmcgicopogbhaaGreat
set_option linter.unusedSimpArgs false
open Go.RowKit
set_option linter.unusedVariables false
def loS (s : Int × Int) : Int × Int := if 1000000000 ≤ Fl (s.1 * s.1) 100000000 then (Fl (Fl (s.1 * s.1) 100000000) 10, 2 * s.2 + 1) else (Fl (s.1 * s.1) 100000000, 2 * s.2)
def hiS (s : Int × Int) : Int × Int := if 1000000000 ≤ Cl (s.1 * s.1) 100000000 then (Cl (Cl (s.1 * s.1) 100000000) 10, 2 * s.2 + 1) else (Cl (s.1 * s.1) 100000000, 2 * s.2)
def loN (x : Int) : Nat → Int × Int
  | 0 => (x, 0)
  | k + 1 => loS (loN x k)
def hiN (x : Int) : Nat → Int × Int
  | 0 => (x, 0)
  | k + 1 => hiS (hiN x k)
theorem sq_bd {x : Int} (h1 : 100000000 ≤ x) (h2 : x ≤ 1000000000) : 10000000000000000 ≤ x * x ∧ x * x ≤ 1000000000000000000 := by
  have a := Int.mul_le_mul h1 h1 (by omega) (by omega)
  have b := Int.mul_le_mul h2 h2 (by omega) (by omega)
  omega
theorem sq_lt {x : Int} (h1 : 100000000 ≤ x) (h2 : x < 1000000000) : x * x ≤ 999999998000000001 := by
  have b := Int.mul_le_mul (show x ≤ 999999999 by omega) (show x ≤ 999999999 by omega) (by omega) (by omega)
  omega
theorem Cl_pos (a b : Int) (hb : 0 < b) : Cl a b = -(-a / b) := by unfold Cl; rw [Fl_pos _ _ hb]
theorem loN_bd (x : Int) (h1 : 100000000 ≤ x) (h2 : x < 1000000000) (k : Nat) : 100000000 ≤ (loN x k).1 ∧ (loN x k).1 < 1000000000 ∧ 0 ≤ (loN x k).2 ∧ (loN x k).2 < 2 ^ k := by
  induction k with
  | zero => simp [loN]; omega
  | succ k ih =>
    obtain ⟨a, b, c, d⟩ := ih
    obtain ⟨s1, s2⟩ := sq_bd a (by omega)
    have s3 := sq_lt a b
    have e : (2 : Int) ^ (k + 1) = 2 * 2 ^ k := by rw [Int.pow_succ]; omega
    rw [e]
    simp only [loN, loS]
    generalize (2 : Int) ^ k = p at *
    generalize (loN x k).1 * (loN x k).1 = q at *
    rw [Fl_pos _ _ (by omega), Fl_pos _ _ (by omega)]
    split <;> simp only <;> omega
theorem hiN_bd (x : Int) (h1 : 100000000 ≤ x) (h2 : x ≤ 1000000000) (k : Nat) : 100000000 ≤ (hiN x k).1 ∧ (hiN x k).1 ≤ 1000000000 ∧ 0 ≤ (hiN x k).2 ∧ (hiN x k).2 < 2 ^ k := by
  induction k with
  | zero => simp [hiN]; omega
  | succ k ih =>
    obtain ⟨a, b, c, d⟩ := ih
    obtain ⟨s1, s2⟩ := sq_bd a b
    have e : (2 : Int) ^ (k + 1) = 2 * 2 ^ k := by rw [Int.pow_succ]; omega
    rw [e]
    simp only [hiN, hiS]
    generalize (2 : Int) ^ k = p at *
    generalize (hiN x k).1 * (hiN x k).1 = q at *
    rw [Cl_pos _ _ (by omega), Cl_pos _ _ (by omega)]
    split <;> simp only <;> omega
theorem pow_le20 (k : Nat) (h : k ≤ 20) : (2 : Int) ^ k ≤ 1048576 := by
  have : 2 ^ k ≤ 2 ^ 20 := Nat.pow_le_pow_right (by omega) h
  have e : ((2 ^ k : Nat) : Int) = (2 : Int) ^ k := by simp
  omega
theorem loN_b (x : Int) (h1 : 100000000 ≤ x) (h2 : x < 1000000000) (k : Nat) (hk : k ≤ 20) : 100000000 ≤ (loN x k).1 ∧ (loN x k).1 < 1000000000 ∧ 0 ≤ (loN x k).2 ∧ (loN x k).2 ≤ 1048575 := by
  obtain ⟨a, b, c, d⟩ := loN_bd x h1 h2 k
  have := pow_le20 k hk
  exact ⟨a, b, c, by omega⟩
theorem hiN_b (x : Int) (h1 : 100000000 ≤ x) (h2 : x ≤ 1000000000) (k : Nat) (hk : k ≤ 20) : 100000000 ≤ (hiN x k).1 ∧ (hiN x k).1 ≤ 1000000000 ∧ 0 ≤ (hiN x k).2 ∧ (hiN x k).2 ≤ 1048575 := by
  obtain ⟨a, b, c, d⟩ := hiN_bd x h1 h2 k
  have := pow_le20 k hk
  exact ⟨a, b, c, by omega⟩
/-- The logarithm of a number of nine digits, from below and from above. -/
def lgLo (x : Int) : Int := (loN x 20).2
def lgHi (x : Int) : Int := (hiN x 20).2 + 1
/-- The logarithm of a figure. -/
def fgLo (dg tn : Int) : Int := lgLo (dg * 100000) + tn * 1048576
def fgHi (dg tn : Int) : Int := lgHi (dg * 100000) + tn * 1048576
theorem lgLo_bd (x : Int) (h1 : 100000000 ≤ x) (h2 : x < 1000000000) : 0 ≤ lgLo x ∧ lgLo x ≤ 1048575 := (loN_b x h1 h2 20 (by omega)).2.2
theorem lgHi_bd (x : Int) (h1 : 100000000 ≤ x) (h2 : x < 1000000000) : 1 ≤ lgHi x ∧ lgHi x ≤ 1048576 := by
  have := hiN_b x h1 (by omega) 20 (by omega)
  unfold lgHi; omega
theorem fg_bd {dg tn : Int} (h1 : 1000 ≤ dg) (h2 : dg ≤ 9999) (h3 : -40 ≤ tn) (h4 : tn ≤ 40) : -42000000 ≤ fgLo dg tn ∧ fgLo dg tn ≤ 43000000 ∧ -42000000 ≤ fgHi dg tn ∧ fgHi dg tn ≤ 43000000 := by
  have a := lgLo_bd (dg * 100000) (by omega) (by omega)
  have b := lgHi_bd (dg * 100000) (by omega) (by omega)
  unfold fgLo fgHi; omega
theorem lo_yes {x : Int} {k : Nat} (h : 1000000000 ≤ (loN x k).1 * (loN x k).1 / 100000000) : loN x (k + 1) = ((loN x k).1 * (loN x k).1 / 100000000 / 10, 2 * (loN x k).2 + 1) := by
  show loS (loN x k) = _
  unfold loS
  rw [Fl_pos _ _ (by omega), Fl_pos _ _ (by omega), if_pos h]
theorem lo_no {x : Int} {k : Nat} (h : ¬ 1000000000 ≤ (loN x k).1 * (loN x k).1 / 100000000) : loN x (k + 1) = ((loN x k).1 * (loN x k).1 / 100000000, 2 * (loN x k).2) := by
  show loS (loN x k) = _
  unfold loS
  rw [Fl_pos _ _ (by omega), if_neg h]
theorem hi_yes {x : Int} {k : Nat} (h : 1000000000 ≤ Cl ((hiN x k).1 * (hiN x k).1) 100000000) : hiN x (k + 1) = (Cl (Cl ((hiN x k).1 * (hiN x k).1) 100000000) 10, 2 * (hiN x k).2 + 1) := by
  show hiS (hiN x k) = _
  unfold hiS
  rw [if_pos h]
theorem hi_no {x : Int} {k : Nat} (h : ¬ 1000000000 ≤ Cl ((hiN x k).1 * (hiN x k).1) 100000000) : hiN x (k + 1) = (Cl ((hiN x k).1 * (hiN x k).1) 100000000, 2 * (hiN x k).2) := by
  show hiS (hiN x k) = _
  unfold hiS
  rw [if_neg h]
theorem Cl_sq {a : Int} (h1 : 100000000 ≤ a) (h2 : a ≤ 1000000000) : 0 ≤ Cl (a * a) 100000000 ∧ Cl (a * a) 100000000 ≤ 10000000000 := by
  obtain ⟨s1, s2⟩ := sq_bd h1 h2
  rw [Cl_pos _ _ (by omega)]
  generalize a * a = p at *
  omega
theorem l03Lo_c (x : Int) (h1 : 100000000 ≤ x) (h2 : x < 1000000000) (w : World) :
    Calls Tryz.prog 154 #[.int .i64 x, .bool false] w fun e w' => e = .returned (.int .i64 (lgLo x)) ∧ w = w' := by
  go_enter Tryz.func154, Tryz.ntmps154
  go_wp2
  go_loop [0, 5, 6, 7] (fun a n i _ => ∃ k : Nat, k ≤ 20 ∧ a = .int .i64 (loN x k).1 ∧ n = .int .i64 (loN x k).2 ∧ i = .int .i64 k) (fun _ _ i _ => 20 - (intOf i).toNat)
  case atStart => exact ⟨0, by omega, rfl, rfl, rfl⟩
  case round =>
    obtain ⟨k, hk, rfl, rfl, rfl⟩ := hrel
    obtain ⟨b1, b2, b3, b4⟩ := loN_b x h1 h2 k hk
    by_cases hlt : k < 20
    · have HY := Lib.hid (lo_yes (x := x) (k := k))
      have HN := Lib.hid (lo_no (x := x) (k := k))
      generalize (loN x k).1 = a at *
      generalize (loN x k).2 = n at *
      obtain ⟨s1, s2⟩ := sq_bd b1 (by omega)
      have e1 : IntKind.i64.wrap (a * a) = a * a := wr64 (by omega) (by omega)
      by_cases hc : 1000000000 ≤ a * a / 100000000
      · have H := Lib.hid (HY.out hc)
        go_wp2
        go_round
        case rel => exact ⟨k + 1, by omega, by rw [H.out], by rw [H.out], by go_num⟩
        case measure => simp [intOf]; omega
      · have H := Lib.hid (HN.out hc)
        go_wp2
        go_round
        case rel => exact ⟨k + 1, by omega, by rw [H.out], by rw [H.out], by go_num⟩
        case measure => simp [intOf]; omega
    · obtain rfl : k = 20 := by omega
      have HV := Lib.hid (show lgLo x = (loN x 20).2 from rfl)
      go_wp2
      go_ret
      exact ⟨by rw [HV.out]; rfl, rfl⟩
theorem l03Hi_c (x : Int) (h1 : 100000000 ≤ x) (h2 : x < 1000000000) (w : World) :
    Calls Tryz.prog 154 #[.int .i64 x, .bool true] w fun e w' => e = .returned (.int .i64 (lgHi x - 1)) ∧ w = w' := by
  go_enter Tryz.func154, Tryz.ntmps154
  go_wp2
  go_loop [0, 5, 6, 7] (fun a n i _ => ∃ k : Nat, k ≤ 20 ∧ a = .int .i64 (hiN x k).1 ∧ n = .int .i64 (hiN x k).2 ∧ i = .int .i64 k) (fun _ _ i _ => 20 - (intOf i).toNat)
  case atStart => exact ⟨0, by omega, rfl, rfl, rfl⟩
  case round =>
    obtain ⟨k, hk, rfl, rfl, rfl⟩ := hrel
    obtain ⟨b1, b2, b3, b4⟩ := hiN_b x h1 (by omega) k hk
    by_cases hlt : k < 20
    · have HY := Lib.hid (hi_yes (x := x) (k := k))
      have HN := Lib.hid (hi_no (x := x) (k := k))
      generalize (hiN x k).1 = a at *
      generalize (hiN x k).2 = n at *
      obtain ⟨s1, s2⟩ := sq_bd b1 b2
      obtain ⟨u1, u2⟩ := Cl_sq b1 b2
      have e1 : IntKind.i64.wrap (a * a) = a * a := wr64 (by omega) (by omega)
      by_cases hc : 1000000000 ≤ Cl (a * a) 100000000
      · have H := Lib.hid (HY.out hc)
        go_wp2_with (first | (go_at_call 99; refine (l01Ceil_c _ _ (by omega) (by omega) (by omega) (by omega) (by omega) _).mono ?_; rintro e w' ⟨rfl, rfl⟩))
        go_round
        case rel => exact ⟨k + 1, by omega, by rw [H.out], by rw [H.out], by go_num⟩
        case measure => simp [intOf]; omega
      · have H := Lib.hid (HN.out hc)
        go_wp2_with (first | (go_at_call 99; refine (l01Ceil_c _ _ (by omega) (by omega) (by omega) (by omega) (by omega) _).mono ?_; rintro e w' ⟨rfl, rfl⟩))
        go_round
        case rel => exact ⟨k + 1, by omega, by rw [H.out], by rw [H.out], by go_num⟩
        case measure => simp [intOf]; omega
    · obtain rfl : k = 20 := by omega
      have HV := Lib.hid (show lgHi x - 1 = (hiN x 20).2 by unfold lgHi; omega)
      go_wp2
      go_ret
      exact ⟨by rw [HV.out]; rfl, rfl⟩
theorem l03Log_c (x : Int) (h1 : 100000000 ≤ x) (h2 : x < 1000000000) (w : World) :
    Calls Tryz.prog 141 #[.int .i64 x] w fun e w' => e = .returned (.agg #[.int .i64 (lgLo x), .int .i64 (lgHi x)]) ∧ Below w.heap.size w w' := by
  obtain ⟨b1, b2⟩ := lgHi_bd x h1 h2
  go_enter Tryz.func141, Tryz.ntmps141
  go_wp2_with fail
  refine (l03Lo_c x h1 h2 _).mono ?_; rintro e w' ⟨rfl, rfl⟩
  go_wp2_with fail
  refine (l03Hi_c x h1 h2 _).mono ?_; rintro e w' ⟨rfl, rfl⟩
  go_wp2
  refine bodyPost_ret (v := .agg #[.int .i64 (lgLo x), .int .i64 (lgHi x)]) (by simp [results, Tryz.results141, go_sem]) rfl ⟨rfl, by repeat (with_reducible first | exact Below.refl _ _ | assumption | refine Bel.alloc ?_ _ | refine Bel.step (by assumption) ?_ | refine Below.drew ?_ | refine Bel.drewN ?_ _ | refine Below.setCell ?_ (by first | exact Nat.le_refl _ | omega | (simp; done) | (simp; omega)) _)⟩
set_option maxHeartbeats 1000000 in
theorem logarithm_c (x : Int) (h1 : 100000000 ≤ x) (h2 : x < 1000000000) (w : World) :
    Calls Tryz.prog 140 #[.int .i64 x] w fun e w' => e = .returned (.agg #[.int .i64 (lgLo x), .int .i64 (lgHi x)]) ∧ Below w.heap.size w w' := by
  go_enter Tryz.func140, Tryz.ntmps140
  go_wp2
  go_loopw [3, 4, 9] (fun a b i wr => ∃ k : Nat, k ≤ 20 ∧ a = .int .i64 (loN x k).1 ∧ b = .int .i64 (hiN x k).1 ∧ i = .int .i64 k ∧ Blk wr (w.heap.size + 1) 92 #[.int .i64 (loN x k).2, .int .i64 (hiN x k).2] ∧ Blk wr w.heap.size 92 #[.int .i64 0, .int .i64 0] ∧ Below w.heap.size w wr) (fun _ _ i _ => 20 - (intOf i).toNat)
  case atStart =>
    refine ⟨0, by omega, rfl, rfl, rfl, ?_, Blk.alloc _ (Blk.new _ _ _), by repeat (with_reducible first | exact Below.refl _ _ | assumption | refine Bel.alloc ?_ _ | refine Bel.step (by assumption) ?_ | refine Below.drew ?_ | refine Bel.drewN ?_ _ | refine Below.setCell ?_ (by first | exact Nat.le_refl _ | omega | (simp; done) | (simp; omega)) _)⟩
    have hN := Blk.new (w.alloc (.cells #[.int .i64 0, .int .i64 0] 92)) 92 #[.int .i64 0, .int .i64 0]
    simp only [World.size_alloc] at hN
    exact hN
  case round =>
    obtain ⟨k, hk, rfl, rfl, rfl, hB, hR, hbel⟩ := hrel
    obtain ⟨b1, b2, b3, b4⟩ := loN_b x h1 h2 k hk
    obtain ⟨d1, d2, d3, d4⟩ := hiN_b x h1 (by omega) k hk
    have k0 : wr.cell? ⟨w.heap.size + 1, 0, none⟩ = some (.int .i64 (loN x k).2) := by rw [hB.cell]; rfl
    have k1 : wr.cell? ⟨w.heap.size + 1, 1, none⟩ = some (.int .i64 (hiN x k).2) := by rw [hB.cell]; rfl
    have f0 := hB.frozen 0
    have f1 := hB.frozen 1
    by_cases hlt : k < 20
    · have LY := Lib.hid (lo_yes (x := x) (k := k))
      have LN := Lib.hid (lo_no (x := x) (k := k))
      have HY := Lib.hid (hi_yes (x := x) (k := k))
      have HN := Lib.hid (hi_no (x := x) (k := k))
      generalize (loN x k).1 = a at *
      generalize (loN x k).2 = m at *
      generalize (hiN x k).1 = b at *
      generalize (hiN x k).2 = n at *
      obtain ⟨s1, s2⟩ := sq_bd b1 (by omega)
      obtain ⟨t1, t2⟩ := sq_bd d1 d2
      obtain ⟨u1, u2⟩ := Cl_sq d1 d2
      have e1 : IntKind.i64.wrap (a * a) = a * a := wr64 (by omega) (by omega)
      have e2 : IntKind.i64.wrap (b * b) = b * b := wr64 (by omega) (by omega)
      have g1 : Fl (a * a) 100000000 = a * a / 100000000 := Fl_pos _ _ (by omega)
      have g2 : Fl (a * a / 100000000) 10 = a * a / 100000000 / 10 := Fl_pos _ _ (by omega)
      have hq := Lib.hid (And.intro g1 g2)
      have hf1 : 0 ≤ Fl (a * a) 100000000 ∧ Fl (a * a) 100000000 ≤ 10000000000 := by rw [g1]; omega
      clear g1 g2
      have HB := Lib.hid hB
      have HR := Lib.hid hR
      have blt := hB.lt
      clear hB hR
      by_cases hc : 1000000000 ≤ Fl (a * a) 100000000
      · have L := Lib.hid (LY.out (by rw [← hq.out.1]; exact hc))
        by_cases hd : 1000000000 ≤ Cl (b * b) 100000000
        · have H := Lib.hid (HY.out hd)
          go_wp2_with (first | (go_at_call 134; refine (down_c _ _ (by omega) (by omega) (by omega) (by omega) (by omega) _).mono ?_; rintro e w' ⟨rfl, rfl⟩) | (go_at_call 98; refine (up_c _ _ (by omega) (by omega) (by omega) (by omega) (by omega) _).mono ?_; rintro e w' ⟨rfl, rfl⟩))
          go_roundw
          case rel =>
            have hRR := HR.out
            refine ⟨k + 1, by omega, by rw [L.out, hq.out.1, hq.out.2], by rw [H.out], by go_num, ?_, (by repeat (with_reducible first | exact hRR | refine Blk.far _ (by first | (simp; done) | (simp; omega)) ?_)), by repeat (with_reducible first | exact Below.refl _ _ | assumption | refine Bel.alloc ?_ _ | refine Bel.step (by assumption) ?_ | refine Below.drew ?_ | refine Bel.drewN ?_ _ | refine Below.setCell ?_ (by first | exact Nat.le_refl _ | omega | (simp; done) | (simp; omega)) _)⟩
            rw [L.out, H.out]
            simpa [Int.mul_comm] using ((((HB.out.set_ 0 (.int .i64 (m * 2))).set_ 0 (.int .i64 (m * 2 + 1))).set_ 1 (.int .i64 (n * 2))).set_ 1 (.int .i64 (n * 2 + 1)))
          case measure => simp [intOf]; omega
        · have H := Lib.hid (HN.out hd)
          go_wp2_with (first | (go_at_call 134; refine (down_c _ _ (by omega) (by omega) (by omega) (by omega) (by omega) _).mono ?_; rintro e w' ⟨rfl, rfl⟩) | (go_at_call 98; refine (up_c _ _ (by omega) (by omega) (by omega) (by omega) (by omega) _).mono ?_; rintro e w' ⟨rfl, rfl⟩))
          go_roundw
          case rel =>
            have hRR := HR.out
            refine ⟨k + 1, by omega, by rw [L.out, hq.out.1, hq.out.2], by rw [H.out], by go_num, ?_, (by repeat (with_reducible first | exact hRR | refine Blk.far _ (by first | (simp; done) | (simp; omega)) ?_)), by repeat (with_reducible first | exact Below.refl _ _ | assumption | refine Bel.alloc ?_ _ | refine Bel.step (by assumption) ?_ | refine Below.drew ?_ | refine Bel.drewN ?_ _ | refine Below.setCell ?_ (by first | exact Nat.le_refl _ | omega | (simp; done) | (simp; omega)) _)⟩
            rw [L.out, H.out]
            simpa [Int.mul_comm] using (((HB.out.set_ 0 (.int .i64 (m * 2))).set_ 0 (.int .i64 (m * 2 + 1))).set_ 1 (.int .i64 (n * 2)))
          case measure => simp [intOf]; omega
      · have L := Lib.hid (LN.out (by rw [← hq.out.1]; exact hc))
        by_cases hd : 1000000000 ≤ Cl (b * b) 100000000
        · have H := Lib.hid (HY.out hd)
          go_wp2_with (first | (go_at_call 134; refine (down_c _ _ (by omega) (by omega) (by omega) (by omega) (by omega) _).mono ?_; rintro e w' ⟨rfl, rfl⟩) | (go_at_call 98; refine (up_c _ _ (by omega) (by omega) (by omega) (by omega) (by omega) _).mono ?_; rintro e w' ⟨rfl, rfl⟩))
          go_roundw
          case rel =>
            have hRR := HR.out
            refine ⟨k + 1, by omega, by rw [L.out, hq.out.1], by rw [H.out], by go_num, ?_, (by repeat (with_reducible first | exact hRR | refine Blk.far _ (by first | (simp; done) | (simp; omega)) ?_)), by repeat (with_reducible first | exact Below.refl _ _ | assumption | refine Bel.alloc ?_ _ | refine Bel.step (by assumption) ?_ | refine Below.drew ?_ | refine Bel.drewN ?_ _ | refine Below.setCell ?_ (by first | exact Nat.le_refl _ | omega | (simp; done) | (simp; omega)) _)⟩
            rw [L.out, H.out]
            simpa [Int.mul_comm] using (((HB.out.set_ 0 (.int .i64 (m * 2))).set_ 1 (.int .i64 (n * 2))).set_ 1 (.int .i64 (n * 2 + 1)))
          case measure => simp [intOf]; omega
        · have H := Lib.hid (HN.out hd)
          go_wp2_with (first | (go_at_call 134; refine (down_c _ _ (by omega) (by omega) (by omega) (by omega) (by omega) _).mono ?_; rintro e w' ⟨rfl, rfl⟩) | (go_at_call 98; refine (up_c _ _ (by omega) (by omega) (by omega) (by omega) (by omega) _).mono ?_; rintro e w' ⟨rfl, rfl⟩))
          go_roundw
          case rel =>
            have hRR := HR.out
            refine ⟨k + 1, by omega, by rw [L.out, hq.out.1], by rw [H.out], by go_num, ?_, (by repeat (with_reducible first | exact hRR | refine Blk.far _ (by first | (simp; done) | (simp; omega)) ?_)), by repeat (with_reducible first | exact Below.refl _ _ | assumption | refine Bel.alloc ?_ _ | refine Bel.step (by assumption) ?_ | refine Below.drew ?_ | refine Bel.drewN ?_ _ | refine Below.setCell ?_ (by first | exact Nat.le_refl _ | omega | (simp; done) | (simp; omega)) _)⟩
            rw [L.out, H.out]
            simpa [Int.mul_comm] using ((HB.out.set_ 0 (.int .i64 (m * 2))).set_ 1 (.int .i64 (n * 2)))
          case measure => simp [intOf]; omega
    · obtain rfl : k = 20 := by omega
      have HV := Lib.hid (show (loN x 20).2 = lgLo x ∧ (hiN x 20).2 + 1 = lgHi x from ⟨rfl, rfl⟩)
      have r0 : wr.cell? ⟨w.heap.size, 0, none⟩ = some (.int .i64 0) := by rw [hR.cell]; rfl
      have r1 : wr.cell? ⟨w.heap.size, 1, none⟩ = some (.int .i64 0) := by rw [hR.cell]; rfl
      have g0 := hR.frozen 0
      have g1 := hR.frozen 1
      clear hB hR
      generalize (loN x 20).2 = m at *
      generalize (hiN x 20).2 = n at *
      go_wp2
      refine bodyPost_ret (v := .agg #[.int .i64 m, .int .i64 (n + 1)]) (by simp [results, Tryz.results140, go_sem, *]) rfl ⟨by rw [HV.out.1, HV.out.2], by repeat (with_reducible first | exact Below.refl _ _ | assumption | refine Bel.alloc ?_ _ | refine Bel.step (by assumption) ?_ | refine Below.drew ?_ | refine Bel.drewN ?_ _ | refine Below.setCell ?_ (by first | exact Nat.le_refl _ | omega | (simp; done) | (simp; omega)) _)⟩
theorem l03Figure_c (dg tn : Int) (h1 : 1000 ≤ dg) (h2 : dg ≤ 9999) (h3 : -40 ≤ tn) (h4 : tn ≤ 40) (w : World) :
    Calls Tryz.prog 111 #[.agg #[.int .i64 dg, .int .i64 tn]] w fun e w' => e = .returned (.agg #[.int .i64 (fgLo dg tn), .int .i64 (fgHi dg tn)]) ∧ Below w.heap.size w w' := by
  obtain ⟨b1, b2⟩ := lgLo_bd (dg * 100000) (by omega) (by omega)
  obtain ⟨b3, b4⟩ := lgHi_bd (dg * 100000) (by omega) (by omega)
  have HV := Lib.hid (show fgLo dg tn = lgLo (dg * 100000) + tn * 1048576 ∧ fgHi dg tn = lgHi (dg * 100000) + tn * 1048576 from ⟨rfl, rfl⟩)
  go_enter Tryz.func111, Tryz.ntmps111
  go_wp2_with fail
  go_at_call 141; refine (l03Log_c _ (by omega) (by omega) _).mono ?_; rintro e w1 ⟨rfl, hb1⟩; obtain ⟨hc1, hf1, hz1⟩ := bel hb1; (try simp only [World.size_drew, World.cell?_drew, World.frozen?_drew, World.heap_drewN, World.cell?_drewN, World.frozen?_drewN] at hc1 hf1 hz1); (try have hl1 : w.heap.size < w1.heap.size := zl hb1); (try have hm1 : w.heap.size + 1 < w1.heap.size := zl hb1); (try have hn1 : w.heap.size + 1 + 1 < w1.heap.size := zl hb1); (try have hp1 : b < w1.heap.size := zl hb1); (try have ho1 : b' < w1.heap.size := by (have hq := hb1.size; (try simp at hq); omega))
  go_wp2
  refine bodyPost_ret (v := .agg #[.int .i64 (lgLo (dg * 100000) + tn * 1048576), .int .i64 (lgHi (dg * 100000) + tn * 1048576)]) (by simp [results, Tryz.results111, go_sem, *]) rfl ⟨by rw [HV.out.1, HV.out.2], by repeat (with_reducible first | exact Below.refl _ _ | assumption | refine Bel.alloc ?_ _ | refine Bel.step (by assumption) ?_ | refine Below.drew ?_ | refine Bel.drewN ?_ _ | refine Below.setCell ?_ (by first | exact Nat.le_refl _ | omega | (simp; done) | (simp; omega)) _)⟩
theorem figureLog_c (dg tn : Int) (h1 : 1000 ≤ dg) (h2 : dg ≤ 9999) (h3 : -40 ≤ tn) (h4 : tn ≤ 40) (w : World) :
    Calls Tryz.prog 108 #[.agg #[.int .i64 dg, .int .i64 tn]] w fun e w' => e = .returned (.agg #[.int .i64 (fgLo dg tn), .int .i64 (fgHi dg tn)]) ∧ Below w.heap.size w w' := by
  obtain ⟨b1, b2⟩ := lgLo_bd (dg * 100000) (by omega) (by omega)
  obtain ⟨b3, b4⟩ := lgHi_bd (dg * 100000) (by omega) (by omega)
  have HV := Lib.hid (show fgLo dg tn = lgLo (dg * 100000) + tn * 1048576 ∧ fgHi dg tn = lgHi (dg * 100000) + tn * 1048576 from ⟨rfl, rfl⟩)
  go_enter Tryz.func108, Tryz.ntmps108
  go_wp2_with fail
  go_at_call 140; refine (logarithm_c _ (by omega) (by omega) _).mono ?_; rintro e w1 ⟨rfl, hb1⟩; obtain ⟨hc1, hf1, hz1⟩ := bel hb1; (try simp only [World.size_drew, World.cell?_drew, World.frozen?_drew, World.heap_drewN, World.cell?_drewN, World.frozen?_drewN] at hc1 hf1 hz1); (try have hl1 : w.heap.size < w1.heap.size := zl hb1); (try have hm1 : w.heap.size + 1 < w1.heap.size := zl hb1); (try have hn1 : w.heap.size + 1 + 1 < w1.heap.size := zl hb1); (try have hp1 : b < w1.heap.size := zl hb1); (try have ho1 : b' < w1.heap.size := by (have hq := hb1.size; (try simp at hq); omega))
  go_wp2
  refine bodyPost_ret (v := .agg #[.int .i64 (lgLo (dg * 100000) + tn * 1048576), .int .i64 (lgHi (dg * 100000) + tn * 1048576)]) (by simp [results, Tryz.results108, go_sem, *]) rfl ⟨by rw [HV.out.1, HV.out.2], by repeat (with_reducible first | exact Below.refl _ _ | assumption | refine Bel.alloc ?_ _ | refine Bel.step (by assumption) ?_ | refine Below.drew ?_ | refine Bel.drewN ?_ _ | refine Below.setCell ?_ (by first | exact Nat.le_refl _ | omega | (simp; done) | (simp; omega)) _)⟩
theorem l03Sub_c (a b c d : Int) (h1 : -2000000000000000000 ≤ a) (h2 : a ≤ 2000000000000000000) (h3 : -2000000000000000000 ≤ b) (h4 : b ≤ 2000000000000000000) (h5 : -2000000000000000000 ≤ c) (h6 : c ≤ 2000000000000000000) (h7 : -2000000000000000000 ≤ d) (h8 : d ≤ 2000000000000000000) (w : World) :
    Calls Tryz.prog 165 #[.agg #[.int .i64 a, .int .i64 b], .agg #[.int .i64 c, .int .i64 d]] w fun e w' => e = .returned (.agg #[.int .i64 (a - d), .int .i64 (b - c)]) ∧ Below w.heap.size w w' := by
  go_enter Tryz.func165, Tryz.ntmps165
  go_wp2
  refine bodyPost_ret (v := .agg #[.int .i64 (a - d), .int .i64 (b - c)]) (by simp [results, Tryz.results165, go_sem, *]) rfl ⟨rfl, by repeat (with_reducible first | exact Below.refl _ _ | assumption | refine Bel.alloc ?_ _ | refine Bel.step (by assumption) ?_ | refine Below.drew ?_ | refine Bel.drewN ?_ _ | refine Below.setCell ?_ (by first | exact Nat.le_refl _ | omega | (simp; done) | (simp; omega)) _)⟩
theorem difference_c (a b c d : Int) (h1 : -2000000000000000000 ≤ a) (h2 : a ≤ 2000000000000000000) (h3 : -2000000000000000000 ≤ b) (h4 : b ≤ 2000000000000000000) (h5 : -2000000000000000000 ≤ c) (h6 : c ≤ 2000000000000000000) (h7 : -2000000000000000000 ≤ d) (h8 : d ≤ 2000000000000000000) (w : World) :
    Calls Tryz.prog 157 #[.agg #[.int .i64 a, .int .i64 b], .agg #[.int .i64 c, .int .i64 d]] w fun e w' => e = .returned (.agg #[.int .i64 (a - d), .int .i64 (b - c)]) ∧ Below w.heap.size w w' := by
  go_enter Tryz.func157, Tryz.ntmps157
  go_wp2
  refine bodyPost_ret (v := .agg #[.int .i64 (a - d), .int .i64 (b - c)]) (by simp [results, Tryz.results157, go_sem, *]) rfl ⟨rfl, by repeat (with_reducible first | exact Below.refl _ _ | assumption | refine Bel.alloc ?_ _ | refine Bel.step (by assumption) ?_ | refine Below.drew ?_ | refine Bel.drewN ?_ _ | refine Below.setCell ?_ (by first | exact Nat.le_refl _ | omega | (simp; done) | (simp; omega)) _)⟩
theorem l03Add_c (a b c d : Int) (h1 : -2000000000000000000 ≤ a) (h2 : a ≤ 2000000000000000000) (h3 : -2000000000000000000 ≤ b) (h4 : b ≤ 2000000000000000000) (h5 : -2000000000000000000 ≤ c) (h6 : c ≤ 2000000000000000000) (h7 : -2000000000000000000 ≤ d) (h8 : d ≤ 2000000000000000000) (w : World) :
    Calls Tryz.prog 112 #[.agg #[.int .i64 a, .int .i64 b], .agg #[.int .i64 c, .int .i64 d]] w fun e w' => e = .returned (.agg #[.int .i64 (a + c), .int .i64 (b + d)]) ∧ Below w.heap.size w w' := by
  go_enter Tryz.func112, Tryz.ntmps112
  go_wp2
  refine bodyPost_ret (v := .agg #[.int .i64 (a + c), .int .i64 (b + d)]) (by simp [results, Tryz.results112, go_sem, *]) rfl ⟨rfl, by repeat (with_reducible first | exact Below.refl _ _ | assumption | refine Bel.alloc ?_ _ | refine Bel.step (by assumption) ?_ | refine Below.drew ?_ | refine Bel.drewN ?_ _ | refine Below.setCell ?_ (by first | exact Nat.le_refl _ | omega | (simp; done) | (simp; omega)) _)⟩
theorem sum_c (a b c d : Int) (h1 : -2000000000000000000 ≤ a) (h2 : a ≤ 2000000000000000000) (h3 : -2000000000000000000 ≤ b) (h4 : b ≤ 2000000000000000000) (h5 : -2000000000000000000 ≤ c) (h6 : c ≤ 2000000000000000000) (h7 : -2000000000000000000 ≤ d) (h8 : d ≤ 2000000000000000000) (w : World) :
    Calls Tryz.prog 109 #[.agg #[.int .i64 a, .int .i64 b], .agg #[.int .i64 c, .int .i64 d]] w fun e w' => e = .returned (.agg #[.int .i64 (a + c), .int .i64 (b + d)]) ∧ Below w.heap.size w w' := by
  go_enter Tryz.func109, Tryz.ntmps109
  go_wp2
  refine bodyPost_ret (v := .agg #[.int .i64 (a + c), .int .i64 (b + d)]) (by simp [results, Tryz.results109, go_sem, *]) rfl ⟨rfl, by repeat (with_reducible first | exact Below.refl _ _ | assumption | refine Bel.alloc ?_ _ | refine Bel.step (by assumption) ?_ | refine Below.drew ?_ | refine Bel.drewN ?_ _ | refine Below.setCell ?_ (by first | exact Nat.le_refl _ | omega | (simp; done) | (simp; omega)) _)⟩
end Go.Proofs.YtpmcgicopogbhaaGreat
