/- Chapter 25: the image of a point under a projection. Conditions: as stated at each contract. -/
import Derived.Test.YthfphjbaglgacaaProg
import Derived.Test.YthfphjbaglgacaaBase
import Derived.Test.YthfphjbaglgacaaL01
import Derived.Test.YthfphjbaglgacaaCp
import Derived.Test.YthfphjbaglgacaaL25
import Derived.Test.YthfphjbaglgacaaL25b
import Derived.Test.YthfphjbaglgacaaL25g
import Derived.WalkKit
import Derived.WalkSpells
import Derived.WalkLawsBesides
import Derived.Lib.Hide
import Derived.Deep.QuietTactic
import Derived.BigQuiet
import Derived.Deep.Draws
import Derived.Deep.RegionHeld3
namespace Go.Proofs.Ythfphjbaglgacaa
open Go.RowKit
set_option linter.unusedVariables false
def rowV (m : List Int) (r : Nat) (x y z : Int) : Int := m.getD (3 * r) 0 * x + m.getD (3 * r + 1) 0 * y + m.getD (3 * r + 2) 0 * z
def rowL (m : List Int) (x y z : Int) : Nat → List Int
  | 0 => []
  | k + 1 => rowL m x y z k ++ [rowV m k x y z]
theorem rowL_len (m : List Int) (x y z : Int) (k : Nat) : (rowL m x y z k).length = k := by
  induction k with
  | zero => rfl
  | succ k ih => simp [rowL, ih]
def prjC (m : List Int) (x y z : Int) : Int := if isPr m && ratB x y z then (if rowV m 2 x y z = 0 then 5 else if smlB9 x y z then redC (rowV m 0 x y z) (rowV m 1 x y z) (rowV m 2 x y z) else 3) else 1
def prjV (m : List Int) (x y z : Int) (k : Nat) : Int := if isPr m && ratB x y z && smlB9 x y z then redV (rowV m 0 x y z) (rowV m 1 x y z) (rowV m 2 x y z) (rowV m k x y z) else 0
theorem prj_1 {m : List Int} {x y z : Int} (h : (isPr m && ratB x y z) = false) : prjC m x y z = 1 ∧ ∀ k, prjV m x y z k = 0 := by
  simp [prjC, prjV, h]
theorem prj_5 {m : List Int} {x y z : Int} (h1 : isPr m = true) (h2 : ratB x y z = true) (h3 : rowV m 2 x y z = 0) : prjC m x y z = 5 ∧ ∀ k, prjV m x y z k = 0 := by
  have hr := @redC_5
  cases h : smlB9 x y z <;> simp [prjC, prjV, h1, h2, h3, h, hr]
theorem prj_3 {m : List Int} {x y z : Int} (h1 : isPr m = true) (h2 : ratB x y z = true) (h3 : rowV m 2 x y z ≠ 0) (h4 : smlB9 x y z = false) : prjC m x y z = 3 ∧ ∀ k, prjV m x y z k = 0 := by
  simp [prjC, prjV, h1, h2, h3, h4]
theorem prj_0 {m : List Int} {x y z : Int} (h1 : isPr m = true) (h2 : ratB x y z = true) (h3 : rowV m 2 x y z ≠ 0) (h4 : smlB9 x y z = true) : prjC m x y z = redC (rowV m 0 x y z) (rowV m 1 x y z) (rowV m 2 x y z) ∧ ∀ k, prjV m x y z k = redV (rowV m 0 x y z) (rowV m 1 x y z) (rowV m 2 x y z) (rowV m k x y z) := by
  simp [prjC, prjV, h1, h2, h3, h4]
theorem isPr_bd {m : List Int} (h : isPr m = true) (i : Nat) : -1000 ≤ m.getD i 0 ∧ m.getD i 0 ≤ 1000 := by
  obtain ⟨h1, _, _⟩ := isPr_iff h
  by_cases hi : i < m.length
  · rw [getD_at _ _ _ hi]
    unfold okEnt at h1
    exact inB_iff.1 (List.all_eq_true.1 h1 _ (List.getElem_mem hi))
  · simp [List.getD, List.getElem?_eq_none (Nat.le_of_not_lt hi)]
theorem row_wr {a b c x y z : Int} (a1 : -1000 ≤ a ∧ a ≤ 1000) (b1 : -1000 ≤ b ∧ b ≤ 1000) (c1 : -1000 ≤ c ∧ c ≤ 1000) (h : ratB x y z = true) :
    IntKind.i64.wrap (a * x) = a * x ∧ IntKind.i64.wrap (b * y) = b * y ∧ IntKind.i64.wrap (a * x + b * y) = a * x + b * y ∧ IntKind.i64.wrap (c * z) = c * z ∧ IntKind.i64.wrap (a * x + b * y + c * z) = a * x + b * y + c * z ∧ -4000000000000000 ≤ a * x + b * y + c * z ∧ a * x + b * y + c * z ≤ 4000000000000000 := by
  simp only [ratB, Bool.and_eq_true] at h
  have p := inB_iff.1 h.1.1.1
  have q := inB_iff.1 h.1.1.2
  have r := inB_iff.1 h.1.2
  have m1 := mul_bd a x 1000 1000000000000 a1.1 a1.2 p.1 p.2
  have m2 := mul_bd b y 1000 1000000000000 b1.1 b1.2 q.1 q.2
  have m3 := mul_bd c z 1000 1000000000000 c1.1 c1.2 (by omega) r.2
  generalize a * x = u at *
  generalize b * y = v at *
  generalize c * z = t at *
  refine ⟨wr64 (by omega) (by omega), wr64 (by omega) (by omega), wr64 (by omega) (by omega), wr64 (by omega) (by omega), wr64 (by omega) (by omega), by omega, by omega⟩
theorem l25Small9_c' (x y z : Int) : (inB x (-1000000000) 1000000000 && inB y (-1000000000) 1000000000 && decide (z ≤ 1000000000)) = smlB9 x y z := rfl
theorem l25Small9_c (x y z : Int) (w : World) :
    Calls Try.prog 93 #[.agg #[.int .i64 x, .int .i64 y, .int .i64 z], .int .i64 1000000000] w fun e w' => e = .returned (.bool (smlB9 x y z)) ∧ Below w.heap.size w w' := l25Small_c x y z 1000000000 (by omega) (by omega) w
theorem IsProjection9_S (A : Option Addr) (c : Nat) (m : List Int) (h9 : m.length = 9) (w : World) (hA : Ints w A m) :
    Calls Try.prog 34 #[.slice A 9 c] w fun e w' => e = .returned (.bool (isPr m)) ∧ Below w.heap.size w w' := by
  have := IsProjection_S A c m (by omega) w hA
  rw [h9] at this; exact this
theorem IsProjection9_I (A : Option Addr) (c : Nat) (m : List Int) (h9 : m.length = 9) (w : World) (hA : Ints w A m) :
    Calls Try.prog 33 #[.slice A 9 c] w fun e w' => e = .returned (.bool (isPr m)) ∧ Below w.heap.size w w' := by
  have := IsProjection_I A c m (by omega) w hA
  rw [h9] at this; exact this
theorem Project1_S (A : Option Addr) (c : Nat) (m : List Int) (hn : m.length ≤ 1048576) (x y z : Int) (w : World) (hA : Ints w A m) (h : (isPr m && ratB x y z) = false) :
    Calls Try.prog 25 #[.slice A m.length c, .agg #[.int .i64 x, .int .i64 y, .int .i64 z]] w fun e w' => e = .returned (.tuple #[.agg #[.int .i64 (prjV m x y z 0), .int .i64 (prjV m x y z 1), .int .i64 (prjV m x y z 2)], .int .i64 (prjC m x y z)]) ∧ Below w.heap.size w w' := by
  have HI := Lib.hid hA
  have HV := Lib.hid (prj_1 h)
  clear hA
  by_cases h1 : isPr m = true
  · have h2 : ratB x y z = false := by simpa [h1] using h
    clear h
    go_enter Try.func25, Try.ntmps25
    go_wp2_with fail
    go_at_call 34; refine (IsProjection_S _ _ _ hn _ (by repeat (with_reducible first | exact HI.out | assumption | refine Ints.drew ?_ | refine Ints.drewN _ ?_ | refine Ints.alloc _ ?_ | refine Ints.step (by assumption) ?_))).mono ?_; rintro e w1 ⟨rfl, hb1⟩; obtain ⟨hc1, hf1, hz1⟩ := bel hb1; (try simp only [World.size_drew, World.cell?_drew, World.frozen?_drew] at hc1 hf1 hz1); (try simp only [World.heap_drewN, World.cell?_drewN, World.frozen?_drewN] at hc1 hf1 hz1); (try have hl1 : w.heap.size < w1.heap.size := by (have hq := hb1.size; (try simp at hq); omega)); (try have hm1 : w.heap.size + 1 < w1.heap.size := by (have hq := hb1.size; (try simp at hq); omega)); (try have hn1 : w.heap.size + 1 + 1 < w1.heap.size := by (have hq := hb1.size; (try simp at hq); omega)); (try have hp1 : b < w1.heap.size := by (have hq := hb1.size; (try simp at hq); omega)); (try have ho1 : b' < w1.heap.size := by (have hq := hb1.size; (try simp at hq); omega))
    rw [h1]
    go_wp2_with fail
    go_at_call 92; refine (l25Is_c _ _ _ _).mono ?_; rintro e w2 ⟨rfl, hb2⟩; obtain ⟨hc2, hf2, hz2⟩ := bel hb2; (try simp only [World.size_drew, World.cell?_drew, World.frozen?_drew] at hc2 hf2 hz2); (try simp only [World.heap_drewN, World.cell?_drewN, World.frozen?_drewN] at hc2 hf2 hz2); (try have hl2 : w.heap.size < w2.heap.size := by (have hq := hb2.size; (try simp at hq); omega)); (try have hm2 : w.heap.size + 1 < w2.heap.size := by (have hq := hb2.size; (try simp at hq); omega)); (try have hn2 : w.heap.size + 1 + 1 < w2.heap.size := by (have hq := hb2.size; (try simp at hq); omega)); (try have hp2 : b < w2.heap.size := by (have hq := hb2.size; (try simp at hq); omega)); (try have ho2 : b' < w2.heap.size := by (have hq := hb2.size; (try simp at hq); omega))
    rw [h2]
    go_wp2
    have e0 : w2.cell? ⟨w.heap.size + 1, 0, none⟩ = some (.int .i64 0) := by simp [go_sem, *]
    have e1 : w2.cell? ⟨w.heap.size + 1, 1, none⟩ = some (.int .i64 0) := by simp [go_sem, *]
    have e2 : w2.cell? ⟨w.heap.size + 1, 2, none⟩ = some (.int .i64 0) := by simp [go_sem, *]
    refine bodyPost_ret (v := .tuple #[.agg #[.int .i64 0, .int .i64 0, .int .i64 0], .int .i64 1]) (by simp [results, Try.results25, go_sem, e0, e1, e2]) rfl ⟨by rw [HV.out.1, HV.out.2, HV.out.2, HV.out.2], by repeat (with_reducible first | exact Below.refl _ _ | assumption | refine Bel.alloc ?_ _ | refine Bel.step (by assumption) ?_ | refine Below.drew ?_ | refine Bel.drewN ?_ _ | refine Below.setCell ?_ (by first | exact Nat.le_refl _ | omega | (simp; done) | (simp; omega)) _)⟩
  · have h1' : isPr m = false := by simpa using h1
    clear h h1
    go_enter Try.func25, Try.ntmps25
    go_wp2_with fail
    go_at_call 34; refine (IsProjection_S _ _ _ hn _ (by repeat (with_reducible first | exact HI.out | assumption | refine Ints.drew ?_ | refine Ints.drewN _ ?_ | refine Ints.alloc _ ?_ | refine Ints.step (by assumption) ?_))).mono ?_; rintro e w1 ⟨rfl, hb1⟩; obtain ⟨hc1, hf1, hz1⟩ := bel hb1; (try simp only [World.size_drew, World.cell?_drew, World.frozen?_drew] at hc1 hf1 hz1); (try simp only [World.heap_drewN, World.cell?_drewN, World.frozen?_drewN] at hc1 hf1 hz1); (try have hl1 : w.heap.size < w1.heap.size := by (have hq := hb1.size; (try simp at hq); omega)); (try have hm1 : w.heap.size + 1 < w1.heap.size := by (have hq := hb1.size; (try simp at hq); omega)); (try have hn1 : w.heap.size + 1 + 1 < w1.heap.size := by (have hq := hb1.size; (try simp at hq); omega)); (try have hp1 : b < w1.heap.size := by (have hq := hb1.size; (try simp at hq); omega)); (try have ho1 : b' < w1.heap.size := by (have hq := hb1.size; (try simp at hq); omega))
    rw [h1']
    go_wp2
    have e0 : w1.cell? ⟨w.heap.size + 1, 0, none⟩ = some (.int .i64 0) := by simp [go_sem, *]
    have e1 : w1.cell? ⟨w.heap.size + 1, 1, none⟩ = some (.int .i64 0) := by simp [go_sem, *]
    have e2 : w1.cell? ⟨w.heap.size + 1, 2, none⟩ = some (.int .i64 0) := by simp [go_sem, *]
    refine bodyPost_ret (v := .tuple #[.agg #[.int .i64 0, .int .i64 0, .int .i64 0], .int .i64 1]) (by simp [results, Try.results25, go_sem, e0, e1, e2]) rfl ⟨by rw [HV.out.1, HV.out.2, HV.out.2, HV.out.2], by repeat (with_reducible first | exact Below.refl _ _ | assumption | refine Bel.alloc ?_ _ | refine Bel.step (by assumption) ?_ | refine Below.drew ?_ | refine Bel.drewN ?_ _ | refine Below.setCell ?_ (by first | exact Nat.le_refl _ | omega | (simp; done) | (simp; omega)) _)⟩
theorem Project1_I (A : Option Addr) (c : Nat) (m : List Int) (hn : m.length ≤ 1048576) (x y z : Int) (w : World) (hA : Ints w A m) (h : (isPr m && ratB x y z) = false) :
    Calls Try.prog 24 #[.slice A m.length c, .agg #[.int .i64 x, .int .i64 y, .int .i64 z]] w fun e w' => e = .returned (.tuple #[.agg #[.int .i64 (prjV m x y z 0), .int .i64 (prjV m x y z 1), .int .i64 (prjV m x y z 2)], .int .i64 (prjC m x y z)]) ∧ Below w.heap.size w w' := by
  have HI := Lib.hid hA
  have HV := Lib.hid (prj_1 h)
  clear hA
  by_cases h1 : isPr m = true
  · have h2 : ratB x y z = false := by simpa [h1] using h
    clear h
    go_enter Try.func24, Try.ntmps24
    go_wp2_with fail
    go_at_call 33; refine (IsProjection_I _ _ _ hn _ (by repeat (with_reducible first | exact HI.out | assumption | refine Ints.drew ?_ | refine Ints.drewN _ ?_ | refine Ints.alloc _ ?_ | refine Ints.step (by assumption) ?_))).mono ?_; rintro e w1 ⟨rfl, hb1⟩; obtain ⟨hc1, hf1, hz1⟩ := bel hb1; (try simp only [World.size_drew, World.cell?_drew, World.frozen?_drew] at hc1 hf1 hz1); (try simp only [World.heap_drewN, World.cell?_drewN, World.frozen?_drewN] at hc1 hf1 hz1); (try have hl1 : w.heap.size < w1.heap.size := by (have hq := hb1.size; (try simp at hq); omega)); (try have hm1 : w.heap.size + 1 < w1.heap.size := by (have hq := hb1.size; (try simp at hq); omega)); (try have hn1 : w.heap.size + 1 + 1 < w1.heap.size := by (have hq := hb1.size; (try simp at hq); omega)); (try have hp1 : b < w1.heap.size := by (have hq := hb1.size; (try simp at hq); omega)); (try have ho1 : b' < w1.heap.size := by (have hq := hb1.size; (try simp at hq); omega))
    rw [h1]
    go_wp2_with fail
    go_at_call 90; refine (isRational_c _ _ _ _).mono ?_; rintro e w2 ⟨rfl, hb2⟩; obtain ⟨hc2, hf2, hz2⟩ := bel hb2; (try simp only [World.size_drew, World.cell?_drew, World.frozen?_drew] at hc2 hf2 hz2); (try simp only [World.heap_drewN, World.cell?_drewN, World.frozen?_drewN] at hc2 hf2 hz2); (try have hl2 : w.heap.size < w2.heap.size := by (have hq := hb2.size; (try simp at hq); omega)); (try have hm2 : w.heap.size + 1 < w2.heap.size := by (have hq := hb2.size; (try simp at hq); omega)); (try have hn2 : w.heap.size + 1 + 1 < w2.heap.size := by (have hq := hb2.size; (try simp at hq); omega)); (try have hp2 : b < w2.heap.size := by (have hq := hb2.size; (try simp at hq); omega)); (try have ho2 : b' < w2.heap.size := by (have hq := hb2.size; (try simp at hq); omega))
    rw [h2]
    go_wp2
    have e0 : w2.cell? ⟨w.heap.size + 1, 0, none⟩ = some (.int .i64 0) := by simp [go_sem, *]
    have e1 : w2.cell? ⟨w.heap.size + 1, 1, none⟩ = some (.int .i64 0) := by simp [go_sem, *]
    have e2 : w2.cell? ⟨w.heap.size + 1, 2, none⟩ = some (.int .i64 0) := by simp [go_sem, *]
    refine bodyPost_ret (v := .tuple #[.agg #[.int .i64 0, .int .i64 0, .int .i64 0], .int .i64 1]) (by simp [results, Try.results24, go_sem, e0, e1, e2]) rfl ⟨by rw [HV.out.1, HV.out.2, HV.out.2, HV.out.2], by repeat (with_reducible first | exact Below.refl _ _ | assumption | refine Bel.alloc ?_ _ | refine Bel.step (by assumption) ?_ | refine Below.drew ?_ | refine Bel.drewN ?_ _ | refine Below.setCell ?_ (by first | exact Nat.le_refl _ | omega | (simp; done) | (simp; omega)) _)⟩
  · have h1' : isPr m = false := by simpa using h1
    clear h h1
    go_enter Try.func24, Try.ntmps24
    go_wp2_with fail
    go_at_call 33; refine (IsProjection_I _ _ _ hn _ (by repeat (with_reducible first | exact HI.out | assumption | refine Ints.drew ?_ | refine Ints.drewN _ ?_ | refine Ints.alloc _ ?_ | refine Ints.step (by assumption) ?_))).mono ?_; rintro e w1 ⟨rfl, hb1⟩; obtain ⟨hc1, hf1, hz1⟩ := bel hb1; (try simp only [World.size_drew, World.cell?_drew, World.frozen?_drew] at hc1 hf1 hz1); (try simp only [World.heap_drewN, World.cell?_drewN, World.frozen?_drewN] at hc1 hf1 hz1); (try have hl1 : w.heap.size < w1.heap.size := by (have hq := hb1.size; (try simp at hq); omega)); (try have hm1 : w.heap.size + 1 < w1.heap.size := by (have hq := hb1.size; (try simp at hq); omega)); (try have hn1 : w.heap.size + 1 + 1 < w1.heap.size := by (have hq := hb1.size; (try simp at hq); omega)); (try have hp1 : b < w1.heap.size := by (have hq := hb1.size; (try simp at hq); omega)); (try have ho1 : b' < w1.heap.size := by (have hq := hb1.size; (try simp at hq); omega))
    rw [h1']
    go_wp2
    have e0 : w1.cell? ⟨w.heap.size + 1, 0, none⟩ = some (.int .i64 0) := by simp [go_sem, *]
    have e1 : w1.cell? ⟨w.heap.size + 1, 1, none⟩ = some (.int .i64 0) := by simp [go_sem, *]
    have e2 : w1.cell? ⟨w.heap.size + 1, 2, none⟩ = some (.int .i64 0) := by simp [go_sem, *]
    refine bodyPost_ret (v := .tuple #[.agg #[.int .i64 0, .int .i64 0, .int .i64 0], .int .i64 1]) (by simp [results, Try.results24, go_sem, e0, e1, e2]) rfl ⟨by rw [HV.out.1, HV.out.2, HV.out.2, HV.out.2], by repeat (with_reducible first | exact Below.refl _ _ | assumption | refine Bel.alloc ?_ _ | refine Bel.step (by assumption) ?_ | refine Below.drew ?_ | refine Bel.drewN ?_ _ | refine Below.setCell ?_ (by first | exact Nat.le_refl _ | omega | (simp; done) | (simp; omega)) _)⟩
set_option maxHeartbeats 1000000 in
theorem ProjectPoint_S (A : Option Addr) (c : Nat) (m : List Int) (hn : m.length ≤ 1048576) (x y z : Int) (w : World) (hA : Ints w A m) :
    Calls Try.prog 25 #[.slice A m.length c, .agg #[.int .i64 x, .int .i64 y, .int .i64 z]] w fun e w' => e = .returned (.tuple #[.agg #[.int .i64 (prjV m x y z 0), .int .i64 (prjV m x y z 1), .int .i64 (prjV m x y z 2)], .int .i64 (prjC m x y z)]) ∧ Below w.heap.size w w' := by
  have HI := Lib.hid hA
  by_cases hg : (isPr m && ratB x y z) = true
  rotate_left
  · exact Project1_S A c m hn x y z w hA (by simpa using hg)
  obtain ⟨h1, h2⟩ : isPr m = true ∧ ratB x y z = true := by simpa using hg
  obtain ⟨q1, q2, q3⟩ := isPr_iff h1
  have HM := Lib.hid q2
  rw [q2]
  obtain ⟨b, o, rfl, hbb, hcell⟩ := hA (by omega)
  have bd := isPr_bd h1
  have HR0 := Lib.hid (show rowV m 0 x y z = m.getD 0 0 * x + m.getD 1 0 * y + m.getD 2 0 * z from rfl)
  have HR1 := Lib.hid (show rowV m 1 x y z = m.getD 3 0 * x + m.getD 4 0 * y + m.getD 5 0 * z from rfl)
  have HR2 := Lib.hid (show rowV m 2 x y z = m.getD 6 0 * x + m.getD 7 0 * y + m.getD 8 0 * z from rfl)
  have h5 := Lib.hid (prj_5 h1 h2)
  have h3 := Lib.hid (prj_3 h1 h2)
  have h0 := Lib.hid (prj_0 h1 h2)
  obtain ⟨u1, u2, u3, u4, u5, u6, u7⟩ := row_wr (bd 0) (bd 1) (bd 2) h2
  obtain ⟨v1, v2, v3, v4, v5, v6, v7⟩ := row_wr (bd 3) (bd 4) (bd 5) h2
  obtain ⟨t1, t2, t3, t4, t5, t6, t7⟩ := row_wr (bd 6) (bd 7) (bd 8) h2
  have k0 : w.cell? ⟨b, o, none⟩ = some (.int .i64 (m.getD 0 0)) := hcell 0 (by omega)
  have k1 : w.cell? ⟨b, o + 1, none⟩ = some (.int .i64 (m.getD 1 0)) := hcell 1 (by omega)
  have k2 : w.cell? ⟨b, o + 2, none⟩ = some (.int .i64 (m.getD 2 0)) := hcell 2 (by omega)
  have k3 : w.cell? ⟨b, o + 3, none⟩ = some (.int .i64 (m.getD 3 0)) := hcell 3 (by omega)
  have k4 : w.cell? ⟨b, o + 4, none⟩ = some (.int .i64 (m.getD 4 0)) := hcell 4 (by omega)
  have k5 : w.cell? ⟨b, o + 5, none⟩ = some (.int .i64 (m.getD 5 0)) := hcell 5 (by omega)
  have k6 : w.cell? ⟨b, o + 6, none⟩ = some (.int .i64 (m.getD 6 0)) := hcell 6 (by omega)
  have k7 : w.cell? ⟨b, o + 7, none⟩ = some (.int .i64 (m.getD 7 0)) := hcell 7 (by omega)
  have k8 : w.cell? ⟨b, o + 8, none⟩ = some (.int .i64 (m.getD 8 0)) := hcell 8 (by omega)
  generalize m.getD 0 0 = d0 at *
  generalize m.getD 1 0 = d1 at *
  generalize m.getD 2 0 = d2 at *
  generalize m.getD 3 0 = d3 at *
  generalize m.getD 4 0 = d4 at *
  generalize m.getD 5 0 = d5 at *
  generalize m.getD 6 0 = d6 at *
  generalize m.getD 7 0 = d7 at *
  generalize m.getD 8 0 = d8 at *
  clear bd hcell q1 q2 q3 hg hA hn
  by_cases c3 : d6 * x + d7 * y + d8 * z = 0
  · have HV := Lib.hid (h5.out (HR2.out.trans c3))
    go_enter Try.func25, Try.ntmps25
    go_wp2_with fail
    go_at_call 34; refine (IsProjection9_S _ _ _ HM.out _ (by repeat (with_reducible first | exact HI.out | assumption | refine Ints.drew ?_ | refine Ints.drewN _ ?_ | refine Ints.alloc _ ?_ | refine Ints.step (by assumption) ?_))).mono ?_; rintro e w1 ⟨rfl, hb1⟩; obtain ⟨hc1, hf1, hz1⟩ := bel hb1; (try simp only [World.size_drew, World.cell?_drew, World.frozen?_drew] at hc1 hf1 hz1); (try simp only [World.heap_drewN, World.cell?_drewN, World.frozen?_drewN] at hc1 hf1 hz1); (try have hl1 : w.heap.size < w1.heap.size := by (have hq := hb1.size; (try simp at hq); omega)); (try have hm1 : w.heap.size + 1 < w1.heap.size := by (have hq := hb1.size; (try simp at hq); omega)); (try have hn1 : w.heap.size + 1 + 1 < w1.heap.size := by (have hq := hb1.size; (try simp at hq); omega)); (try have hp1 : b < w1.heap.size := by (have hq := hb1.size; (try simp at hq); omega)); (try have ho1 : b' < w1.heap.size := by (have hq := hb1.size; (try simp at hq); omega))
    rw [h1]
    go_wp2_with fail
    go_at_call 92; refine (l25Is_c _ _ _ _).mono ?_; rintro e w2 ⟨rfl, hb2⟩; obtain ⟨hc2, hf2, hz2⟩ := bel hb2; (try simp only [World.size_drew, World.cell?_drew, World.frozen?_drew] at hc2 hf2 hz2); (try simp only [World.heap_drewN, World.cell?_drewN, World.frozen?_drewN] at hc2 hf2 hz2); (try have hl2 : w.heap.size < w2.heap.size := by (have hq := hb2.size; (try simp at hq); omega)); (try have hm2 : w.heap.size + 1 < w2.heap.size := by (have hq := hb2.size; (try simp at hq); omega)); (try have hn2 : w.heap.size + 1 + 1 < w2.heap.size := by (have hq := hb2.size; (try simp at hq); omega)); (try have hp2 : b < w2.heap.size := by (have hq := hb2.size; (try simp at hq); omega)); (try have ho2 : b' < w2.heap.size := by (have hq := hb2.size; (try simp at hq); omega))
    rw [h2]
    have hbel2 : Below w.heap.size w w2 := by repeat (with_reducible first | exact Below.refl _ _ | assumption | refine Bel.alloc ?_ _ | refine Bel.step (by assumption) ?_ | refine Below.drew ?_ | refine Bel.drewN ?_ _ | refine Below.setCell ?_ (by first | exact Nat.le_refl _ | omega | (simp; done) | (simp; omega)) _)
    obtain ⟨hca, hfa, hza⟩ := bel hbel2
    have K6 : w2.cell? ⟨b, o + 6, none⟩ = some (.int .i64 d6) := by rw [hca _ _ hbb]; exact k6
    have K7 : w2.cell? ⟨b, o + 7, none⟩ = some (.int .i64 d7) := by rw [hca _ _ hbb]; exact k7
    have K8 : w2.cell? ⟨b, o + 8, none⟩ = some (.int .i64 d8) := by rw [hca _ _ hbb]; exact k8
    have P0 : w2.cell? ⟨w.heap.size, 0, none⟩ = some (.int .i64 x) := by simp [go_sem, *]
    have P1 : w2.cell? ⟨w.heap.size, 1, none⟩ = some (.int .i64 y) := by simp [go_sem, *]
    have P2 : w2.cell? ⟨w.heap.size, 2, none⟩ = some (.int .i64 z) := by simp [go_sem, *]
    have N0 : w2.cell? ⟨w.heap.size + 1, 0, none⟩ = some (.int .i64 0) := by simp [go_sem, *]
    have G0 : w2.frozen? ⟨w.heap.size + 1, 0, none⟩ = false := by simp [go_sem, *]
    have N1 : w2.cell? ⟨w.heap.size + 1, 1, none⟩ = some (.int .i64 0) := by simp [go_sem, *]
    have G1 : w2.frozen? ⟨w.heap.size + 1, 1, none⟩ = false := by simp [go_sem, *]
    have N2 : w2.cell? ⟨w.heap.size + 1, 2, none⟩ = some (.int .i64 0) := by simp [go_sem, *]
    have G2 : w2.frozen? ⟨w.heap.size + 1, 2, none⟩ = false := by simp [go_sem, *]
    have hs2 : w.heap.size + 1 < w2.heap.size := by omega
    clear hca hfa hza hc1 hf1 hz1 hb1 hc2 hf2 hz2 hb2
    go_wp2
    go_big_quiet (fail)
    go_wp2
    refine bodyPost_ret (v := .tuple #[.agg #[.int .i64 0, .int .i64 0, .int .i64 0], .int .i64 5]) (by simp [results, Try.results25, go_sem, *]) rfl ⟨by rw [HV.out.1, HV.out.2, HV.out.2, HV.out.2], by repeat (with_reducible first | exact Below.refl _ _ | assumption | refine Bel.alloc ?_ _ | refine Bel.step (by assumption) ?_ | refine Below.drew ?_ | refine Bel.drewN ?_ _ | refine Below.setCell ?_ (by first | exact Nat.le_refl _ | omega | (simp; done) | (simp; omega)) _)⟩
  · by_cases c4 : smlB9 x y z = true
    · have HV := Lib.hid (h0.out (by rw [HR2.out]; exact c3) c4)
      go_enter Try.func25, Try.ntmps25
      go_wp2_with fail
      go_at_call 34; refine (IsProjection9_S _ _ _ HM.out _ (by repeat (with_reducible first | exact HI.out | assumption | refine Ints.drew ?_ | refine Ints.drewN _ ?_ | refine Ints.alloc _ ?_ | refine Ints.step (by assumption) ?_))).mono ?_; rintro e w1 ⟨rfl, hb1⟩; obtain ⟨hc1, hf1, hz1⟩ := bel hb1; (try simp only [World.size_drew, World.cell?_drew, World.frozen?_drew] at hc1 hf1 hz1); (try simp only [World.heap_drewN, World.cell?_drewN, World.frozen?_drewN] at hc1 hf1 hz1); (try have hl1 : w.heap.size < w1.heap.size := by (have hq := hb1.size; (try simp at hq); omega)); (try have hm1 : w.heap.size + 1 < w1.heap.size := by (have hq := hb1.size; (try simp at hq); omega)); (try have hn1 : w.heap.size + 1 + 1 < w1.heap.size := by (have hq := hb1.size; (try simp at hq); omega)); (try have hp1 : b < w1.heap.size := by (have hq := hb1.size; (try simp at hq); omega)); (try have ho1 : b' < w1.heap.size := by (have hq := hb1.size; (try simp at hq); omega))
      rw [h1]
      go_wp2_with fail
      go_at_call 92; refine (l25Is_c _ _ _ _).mono ?_; rintro e w2 ⟨rfl, hb2⟩; obtain ⟨hc2, hf2, hz2⟩ := bel hb2; (try simp only [World.size_drew, World.cell?_drew, World.frozen?_drew] at hc2 hf2 hz2); (try simp only [World.heap_drewN, World.cell?_drewN, World.frozen?_drewN] at hc2 hf2 hz2); (try have hl2 : w.heap.size < w2.heap.size := by (have hq := hb2.size; (try simp at hq); omega)); (try have hm2 : w.heap.size + 1 < w2.heap.size := by (have hq := hb2.size; (try simp at hq); omega)); (try have hn2 : w.heap.size + 1 + 1 < w2.heap.size := by (have hq := hb2.size; (try simp at hq); omega)); (try have hp2 : b < w2.heap.size := by (have hq := hb2.size; (try simp at hq); omega)); (try have ho2 : b' < w2.heap.size := by (have hq := hb2.size; (try simp at hq); omega))
      rw [h2]
      have hbel2 : Below w.heap.size w w2 := by repeat (with_reducible first | exact Below.refl _ _ | assumption | refine Bel.alloc ?_ _ | refine Bel.step (by assumption) ?_ | refine Below.drew ?_ | refine Bel.drewN ?_ _ | refine Below.setCell ?_ (by first | exact Nat.le_refl _ | omega | (simp; done) | (simp; omega)) _)
      obtain ⟨hca, hfa, hza⟩ := bel hbel2
      have K0 : w2.cell? ⟨b, o, none⟩ = some (.int .i64 d0) := by rw [hca _ _ hbb]; exact k0
      have K1 : w2.cell? ⟨b, o + 1, none⟩ = some (.int .i64 d1) := by rw [hca _ _ hbb]; exact k1
      have K2 : w2.cell? ⟨b, o + 2, none⟩ = some (.int .i64 d2) := by rw [hca _ _ hbb]; exact k2
      have K3 : w2.cell? ⟨b, o + 3, none⟩ = some (.int .i64 d3) := by rw [hca _ _ hbb]; exact k3
      have K4 : w2.cell? ⟨b, o + 4, none⟩ = some (.int .i64 d4) := by rw [hca _ _ hbb]; exact k4
      have K5 : w2.cell? ⟨b, o + 5, none⟩ = some (.int .i64 d5) := by rw [hca _ _ hbb]; exact k5
      have K6 : w2.cell? ⟨b, o + 6, none⟩ = some (.int .i64 d6) := by rw [hca _ _ hbb]; exact k6
      have K7 : w2.cell? ⟨b, o + 7, none⟩ = some (.int .i64 d7) := by rw [hca _ _ hbb]; exact k7
      have K8 : w2.cell? ⟨b, o + 8, none⟩ = some (.int .i64 d8) := by rw [hca _ _ hbb]; exact k8
      have P0 : w2.cell? ⟨w.heap.size, 0, none⟩ = some (.int .i64 x) := by simp [go_sem, *]
      have P1 : w2.cell? ⟨w.heap.size, 1, none⟩ = some (.int .i64 y) := by simp [go_sem, *]
      have P2 : w2.cell? ⟨w.heap.size, 2, none⟩ = some (.int .i64 z) := by simp [go_sem, *]
      have N0 : w2.cell? ⟨w.heap.size + 1, 0, none⟩ = some (.int .i64 0) := by simp [go_sem, *]
      have G0 : w2.frozen? ⟨w.heap.size + 1, 0, none⟩ = false := by simp [go_sem, *]
      have N1 : w2.cell? ⟨w.heap.size + 1, 1, none⟩ = some (.int .i64 0) := by simp [go_sem, *]
      have G1 : w2.frozen? ⟨w.heap.size + 1, 1, none⟩ = false := by simp [go_sem, *]
      have N2 : w2.cell? ⟨w.heap.size + 1, 2, none⟩ = some (.int .i64 0) := by simp [go_sem, *]
      have G2 : w2.frozen? ⟨w.heap.size + 1, 2, none⟩ = false := by simp [go_sem, *]
      have hs2 : w.heap.size + 1 < w2.heap.size := by omega
      clear hca hfa hza hc1 hf1 hz1 hb1 hc2 hf2 hz2 hb2
      go_wp2
      go_big_quiet (fail)
      go_wp2_with fail
      go_at_call 93; refine (l25Small9_c _ _ _ _).mono ?_; rintro e w3 ⟨rfl, hb3⟩; obtain ⟨hc3, hf3, hz3⟩ := bel hb3; (try simp only [World.size_drew, World.cell?_drew, World.frozen?_drew] at hc3 hf3 hz3); (try simp only [World.heap_drewN, World.cell?_drewN, World.frozen?_drewN] at hc3 hf3 hz3); (try have hl3 : w.heap.size < w3.heap.size := by (have hq := hb3.size; (try simp at hq); omega)); (try have hm3 : w.heap.size + 1 < w3.heap.size := by (have hq := hb3.size; (try simp at hq); omega)); (try have hn3 : w.heap.size + 1 + 1 < w3.heap.size := by (have hq := hb3.size; (try simp at hq); omega)); (try have hp3 : b < w3.heap.size := by (have hq := hb3.size; (try simp at hq); omega)); (try have ho3 : b' < w3.heap.size := by (have hq := hb3.size; (try simp at hq); omega))
      rw [c4]
      go_wp2
      simp only [List.append_eq, List.cons_append, List.nil_append]
      go_region_held3 (fun w' => w'.cell? ⟨b, o, none⟩ = some (.int .i64 d0) ∧ w'.cell? ⟨b, o + 1, none⟩ = some (.int .i64 d1) ∧ w'.cell? ⟨b, o + 2, none⟩ = some (.int .i64 d2) ∧ w'.cell? ⟨b, o + 3, none⟩ = some (.int .i64 d3) ∧ w'.cell? ⟨b, o + 4, none⟩ = some (.int .i64 d4) ∧ w'.cell? ⟨b, o + 5, none⟩ = some (.int .i64 d5) ∧ w'.cell? ⟨b, o + 6, none⟩ = some (.int .i64 d6) ∧ w'.cell? ⟨b, o + 7, none⟩ = some (.int .i64 d7) ∧ w'.cell? ⟨b, o + 8, none⟩ = some (.int .i64 d8) ∧ w'.cell? ⟨w.heap.size, 0, none⟩ = some (.int .i64 x) ∧ w'.cell? ⟨w.heap.size, 1, none⟩ = some (.int .i64 y) ∧ w'.cell? ⟨w.heap.size, 2, none⟩ = some (.int .i64 z)) (simp [go_sem, *])
          (first | (go_at_call 94; refine (l25Make_c _ _ _ (by omega) (by omega) (by omega) (by omega) (by omega) (by omega) _).mono ?_; rintro e w1 ⟨rfl, hb1⟩; obtain ⟨hc1, hf1, hz1⟩ := bel hb1; (try simp only [World.size_drew, World.cell?_drew, World.frozen?_drew] at hc1 hf1 hz1); (try simp only [World.heap_drewN, World.cell?_drewN, World.frozen?_drewN] at hc1 hf1 hz1); (try have hl1 : w.heap.size < w1.heap.size := by (have hq := hb1.size; (try simp at hq); omega)); (try have hm1 : w.heap.size + 1 < w1.heap.size := by (have hq := hb1.size; (try simp at hq); omega)); (try have hn1 : w.heap.size + 1 + 1 < w1.heap.size := by (have hq := hb1.size; (try simp at hq); omega)); (try have hp1 : b < w1.heap.size := by (have hq := hb1.size; (try simp at hq); omega)); (try have ho1 : b' < w1.heap.size := by (have hq := hb1.size; (try simp at hq); omega))))
      go_wp2
      refine bodyPost_ret (v := .tuple #[.agg #[.int .i64 (redV (d0 * x + d1 * y + d2 * z) (d3 * x + d4 * y + d5 * z) (d6 * x + d7 * y + d8 * z) (d0 * x + d1 * y + d2 * z)), .int .i64 (redV (d0 * x + d1 * y + d2 * z) (d3 * x + d4 * y + d5 * z) (d6 * x + d7 * y + d8 * z) (d3 * x + d4 * y + d5 * z)), .int .i64 (redV (d0 * x + d1 * y + d2 * z) (d3 * x + d4 * y + d5 * z) (d6 * x + d7 * y + d8 * z) (d6 * x + d7 * y + d8 * z))], .int .i64 (redC (d0 * x + d1 * y + d2 * z) (d3 * x + d4 * y + d5 * z) (d6 * x + d7 * y + d8 * z))]) (by simp [results, Try.results25, go_sem, *]) rfl ⟨by rw [HV.out.1, HV.out.2, HV.out.2, HV.out.2, HR0.out, HR1.out, HR2.out], by repeat (with_reducible first | exact Below.refl _ _ | assumption | refine Bel.alloc ?_ _ | refine Bel.step (by assumption) ?_ | refine Below.drew ?_ | refine Bel.drewN ?_ _ | refine Below.setCell ?_ (by first | exact Nat.le_refl _ | omega | (simp; done) | (simp; omega)) _)⟩
    · have c4' : smlB9 x y z = false := by simpa using c4
      have HV := Lib.hid (h3.out (by rw [HR2.out]; exact c3) c4')
      clear c4
      go_enter Try.func25, Try.ntmps25
      go_wp2_with fail
      go_at_call 34; refine (IsProjection9_S _ _ _ HM.out _ (by repeat (with_reducible first | exact HI.out | assumption | refine Ints.drew ?_ | refine Ints.drewN _ ?_ | refine Ints.alloc _ ?_ | refine Ints.step (by assumption) ?_))).mono ?_; rintro e w1 ⟨rfl, hb1⟩; obtain ⟨hc1, hf1, hz1⟩ := bel hb1; (try simp only [World.size_drew, World.cell?_drew, World.frozen?_drew] at hc1 hf1 hz1); (try simp only [World.heap_drewN, World.cell?_drewN, World.frozen?_drewN] at hc1 hf1 hz1); (try have hl1 : w.heap.size < w1.heap.size := by (have hq := hb1.size; (try simp at hq); omega)); (try have hm1 : w.heap.size + 1 < w1.heap.size := by (have hq := hb1.size; (try simp at hq); omega)); (try have hn1 : w.heap.size + 1 + 1 < w1.heap.size := by (have hq := hb1.size; (try simp at hq); omega)); (try have hp1 : b < w1.heap.size := by (have hq := hb1.size; (try simp at hq); omega)); (try have ho1 : b' < w1.heap.size := by (have hq := hb1.size; (try simp at hq); omega))
      rw [h1]
      go_wp2_with fail
      go_at_call 92; refine (l25Is_c _ _ _ _).mono ?_; rintro e w2 ⟨rfl, hb2⟩; obtain ⟨hc2, hf2, hz2⟩ := bel hb2; (try simp only [World.size_drew, World.cell?_drew, World.frozen?_drew] at hc2 hf2 hz2); (try simp only [World.heap_drewN, World.cell?_drewN, World.frozen?_drewN] at hc2 hf2 hz2); (try have hl2 : w.heap.size < w2.heap.size := by (have hq := hb2.size; (try simp at hq); omega)); (try have hm2 : w.heap.size + 1 < w2.heap.size := by (have hq := hb2.size; (try simp at hq); omega)); (try have hn2 : w.heap.size + 1 + 1 < w2.heap.size := by (have hq := hb2.size; (try simp at hq); omega)); (try have hp2 : b < w2.heap.size := by (have hq := hb2.size; (try simp at hq); omega)); (try have ho2 : b' < w2.heap.size := by (have hq := hb2.size; (try simp at hq); omega))
      rw [h2]
      have hbel2 : Below w.heap.size w w2 := by repeat (with_reducible first | exact Below.refl _ _ | assumption | refine Bel.alloc ?_ _ | refine Bel.step (by assumption) ?_ | refine Below.drew ?_ | refine Bel.drewN ?_ _ | refine Below.setCell ?_ (by first | exact Nat.le_refl _ | omega | (simp; done) | (simp; omega)) _)
      obtain ⟨hca, hfa, hza⟩ := bel hbel2
      have K6 : w2.cell? ⟨b, o + 6, none⟩ = some (.int .i64 d6) := by rw [hca _ _ hbb]; exact k6
      have K7 : w2.cell? ⟨b, o + 7, none⟩ = some (.int .i64 d7) := by rw [hca _ _ hbb]; exact k7
      have K8 : w2.cell? ⟨b, o + 8, none⟩ = some (.int .i64 d8) := by rw [hca _ _ hbb]; exact k8
      have P0 : w2.cell? ⟨w.heap.size, 0, none⟩ = some (.int .i64 x) := by simp [go_sem, *]
      have P1 : w2.cell? ⟨w.heap.size, 1, none⟩ = some (.int .i64 y) := by simp [go_sem, *]
      have P2 : w2.cell? ⟨w.heap.size, 2, none⟩ = some (.int .i64 z) := by simp [go_sem, *]
      have N0 : w2.cell? ⟨w.heap.size + 1, 0, none⟩ = some (.int .i64 0) := by simp [go_sem, *]
      have G0 : w2.frozen? ⟨w.heap.size + 1, 0, none⟩ = false := by simp [go_sem, *]
      have N1 : w2.cell? ⟨w.heap.size + 1, 1, none⟩ = some (.int .i64 0) := by simp [go_sem, *]
      have G1 : w2.frozen? ⟨w.heap.size + 1, 1, none⟩ = false := by simp [go_sem, *]
      have N2 : w2.cell? ⟨w.heap.size + 1, 2, none⟩ = some (.int .i64 0) := by simp [go_sem, *]
      have G2 : w2.frozen? ⟨w.heap.size + 1, 2, none⟩ = false := by simp [go_sem, *]
      have hs2 : w.heap.size + 1 < w2.heap.size := by omega
      clear hca hfa hza hc1 hf1 hz1 hb1 hc2 hf2 hz2 hb2
      go_wp2
      go_big_quiet (fail)
      go_wp2_with fail
      go_at_call 93; refine (l25Small9_c _ _ _ _).mono ?_; rintro e w3 ⟨rfl, hb3⟩; obtain ⟨hc3, hf3, hz3⟩ := bel hb3; (try simp only [World.size_drew, World.cell?_drew, World.frozen?_drew] at hc3 hf3 hz3); (try simp only [World.heap_drewN, World.cell?_drewN, World.frozen?_drewN] at hc3 hf3 hz3); (try have hl3 : w.heap.size < w3.heap.size := by (have hq := hb3.size; (try simp at hq); omega)); (try have hm3 : w.heap.size + 1 < w3.heap.size := by (have hq := hb3.size; (try simp at hq); omega)); (try have hn3 : w.heap.size + 1 + 1 < w3.heap.size := by (have hq := hb3.size; (try simp at hq); omega)); (try have hp3 : b < w3.heap.size := by (have hq := hb3.size; (try simp at hq); omega)); (try have ho3 : b' < w3.heap.size := by (have hq := hb3.size; (try simp at hq); omega))
      rw [c4']
      go_wp2
      have e0 : w3.cell? ⟨w.heap.size + 1, 0, none⟩ = some (.int .i64 0) := by simp [go_sem, *]
      have e1 : w3.cell? ⟨w.heap.size + 1, 1, none⟩ = some (.int .i64 0) := by simp [go_sem, *]
      have e2 : w3.cell? ⟨w.heap.size + 1, 2, none⟩ = some (.int .i64 0) := by simp [go_sem, *]
      refine bodyPost_ret (v := .tuple #[.agg #[.int .i64 0, .int .i64 0, .int .i64 0], .int .i64 3]) (by simp [results, Try.results25, go_sem, e0, e1, e2]) rfl ⟨by rw [HV.out.1, HV.out.2, HV.out.2, HV.out.2], by repeat (with_reducible first | exact Below.refl _ _ | assumption | refine Bel.alloc ?_ _ | refine Bel.step (by assumption) ?_ | refine Below.drew ?_ | refine Bel.drewN ?_ _ | refine Below.setCell ?_ (by first | exact Nat.le_refl _ | omega | (simp; done) | (simp; omega)) _)⟩
end Go.Proofs.Ythfphjbaglgacaa
