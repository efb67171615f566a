/- Chapter 25: rounding a rational point. Conditions: as stated at each contract. -/
import Derived.Test.YthfphjbaglgacaaProg
import Derived.Test.YthfphjbaglgacaaBase
import Derived.Test.YthfphjbaglgacaaL01
import Derived.Test.YthfphjbaglgacaaCp
import Derived.Test.YthfphjbaglgacaaL22
import Derived.Test.YthfphjbaglgacaaL25
import Derived.Test.YthfphjbaglgacaaL25b
import Derived.WalkKit
import Derived.WalkSpells
import Derived.WalkLawsBesides
import Derived.Lib.Hide
import Derived.Deep.QuietTactic
import Derived.BigQuiet
import Derived.Deep.Draws
import Derived.Deep.RegionHeld3
namespace Go.Proofs.Ythfphjbaglgacaa
open Go.RowKit
set_option linter.unusedVariables false
def rndC (x y z : Int) : Int := if ratB x y z then (if okP (Nr x z, Nr y z) then 0 else 3) else 1
def rndV (x y z u : Int) : Int := if ratB x y z && okP (Nr x z, Nr y z) then Nr u z else 0
theorem ratB_bd {x y z : Int} (h : ratB x y z = true) : -1000000000000 ≤ x ∧ x ≤ 1000000000000 ∧ -1000000000000 ≤ y ∧ y ≤ 1000000000000 ∧ 1 ≤ z ∧ z ≤ 1000000000000 := by
  simp only [ratB, Bool.and_eq_true] at h
  have a := inB_iff.1 h.1.1.1
  have b := inB_iff.1 h.1.1.2
  have c := inB_iff.1 h.1.2
  omega
theorem Prs.one (w : World) (T : TypeId) (a b : Int) : Prs (w.alloc (.cells #[.int .i64 a, .int .i64 b] T)) (some ⟨w.heap.size, 0, none⟩) [(a, b)] := by
  intro _
  refine ⟨w.heap.size, 0, rfl, by simp [go_sem], fun i hi => ?_⟩
  have : i = 0 := by simp at hi; omega
  subst this
  constructor <;> simp [go_sem]
theorem okPs_one (a b : Int) : okPs [(a, b)] = okP (a, b) := by simp [okPs]
set_option maxHeartbeats 800000 in
theorem RoundPoint_S (x y z : Int) (w : World) :
    Calls Try.prog 43 #[.agg #[.int .i64 x, .int .i64 y, .int .i64 z]] w fun e w' => e = .returned (.tuple #[.agg #[.int .i64 (rndV x y z x), .int .i64 (rndV x y z y)], .int .i64 (rndC x y z)]) ∧ Below w.heap.size w w' := by
  by_cases hr : ratB x y z = true
  · obtain ⟨a1, a2, a3, a4, a5, a6⟩ := ratB_bd hr
    by_cases ho : okP (Nr x z, Nr y z) = true
    · have HV := Lib.hid <| show rndC x y z = 0 ∧ ∀ u, rndV x y z u = Nr u z from ⟨by simp [rndC, hr, ho], fun u => by simp [rndV, hr, ho]⟩
      have HO := Lib.hid <| (okPs_one (Nr x z) (Nr y z)).trans ho
      have hop : okPs [(Nr x z, Nr y z)] = true := HO.out
      clear ho
      go_enter Try.func43, Try.ntmps43
      go_wp2_with fail
      go_at_call 92; refine (l25Is_c _ _ _ _).mono ?_; rintro e w1 ⟨rfl, hb1⟩; obtain ⟨hc1, hf1, hz1⟩ := bel hb1; (try simp only [World.size_drew, World.cell?_drew, World.frozen?_drew] at hc1 hf1 hz1); (try simp only [World.heap_drewN, World.cell?_drewN, World.frozen?_drewN] at hc1 hf1 hz1); (try have hl1 : w.heap.size < w1.heap.size := by (have hq := hb1.size; (try simp at hq); omega)); (try have hm1 : w.heap.size + 1 < w1.heap.size := by (have hq := hb1.size; (try simp at hq); omega)); (try have hn1 : w.heap.size + 1 + 1 < w1.heap.size := by (have hq := hb1.size; (try simp at hq); omega)); (try have hp1 : b < w1.heap.size := by (have hq := hb1.size; (try simp at hq); omega)); (try have ho1 : b' < w1.heap.size := by (have hq := hb1.size; (try simp at hq); omega))
      go_wp2
      go_region_held3 (fun w' => w'.cell? ⟨w.heap.size, 0, none⟩ = some (.int .i64 x) ∧ w'.cell? ⟨w.heap.size, 1, none⟩ = some (.int .i64 y) ∧ w'.cell? ⟨w.heap.size, 2, none⟩ = some (.int .i64 z)) (simp [go_sem, *])
          (first | (go_at_call 109; refine (l01Nearest_c _ _ (by omega) (by omega) (by omega) (by omega) (by omega) _).mono ?_; rintro e w' ⟨rfl, rfl⟩))
      all_goals
        obtain ⟨w2, hw2⟩ : ∃ w2, w2 = (w1.alloc (.cells #[.int .i64 (Nr x z), .int .i64 (Nr y z)] 66)).drew := ⟨_, rfl⟩
        have hb2 : Below w1.heap.size w1 w2 := by rw [hw2]; repeat (with_reducible first | exact Below.refl _ _ | assumption | refine Bel.alloc ?_ _ | refine Bel.step (by assumption) ?_ | refine Below.drew ?_ | refine Bel.drewN ?_ _ | refine Below.setCell ?_ (by first | exact Nat.le_refl _ | omega | (simp; done) | (simp; omega)) _)
        have q0 : w2.cell? ⟨w1.heap.size, 0, none⟩ = some (.int .i64 (Nr x z)) := by rw [hw2]; simp [go_sem]
        have q1 : w2.cell? ⟨w1.heap.size, 1, none⟩ = some (.int .i64 (Nr y z)) := by rw [hw2]; simp [go_sem]
        have hs2 : w2.heap.size = w1.heap.size + 1 := by rw [hw2]; simp [go_sem]
        have hbel2 : Below w.heap.size w w2 := by rw [hw2]; repeat (with_reducible first | exact Below.refl _ _ | assumption | refine Bel.alloc ?_ _ | refine Bel.step (by assumption) ?_ | refine Below.drew ?_ | refine Bel.drewN ?_ _ | refine Below.setCell ?_ (by first | exact Nat.le_refl _ | omega | (simp; done) | (simp; omega)) _)
        rw [← hw2]
        clear hw2
        obtain ⟨hc2, hf2, hz2⟩ := bel hb2
        have e0 : w2.cell? ⟨w.heap.size + 1, 0, none⟩ = some (.int .i64 0) := by simp [go_sem, *]
        have e1 : w2.cell? ⟨w.heap.size + 1, 1, none⟩ = some (.int .i64 0) := by simp [go_sem, *]
        go_wp2_with fail
        have hP : Prs (w2.alloc (.cells #[.int .i64 (Nr x z), .int .i64 (Nr y z)] 66)) (some ⟨w1.heap.size + 1, 0, none⟩) [(Nr x z, Nr y z)] := by rw [← hs2]; exact Prs.one _ _ _ _
        refine (l22Points_c _ 1 [(Nr x z, Nr y z)] (by simp) _ hP).mono ?_; rintro e w3 ⟨rfl, hb3⟩
        obtain ⟨hc3, hf3, hz3⟩ := bel hb3
        rw [hop]
        have p0 : w3.cell? ⟨w.heap.size + 1, 0, none⟩ = some (.int .i64 0) := by simp [go_sem, *]
        have p1 : w3.cell? ⟨w.heap.size + 1, 1, none⟩ = some (.int .i64 0) := by simp [go_sem, *]
        have p2 : w3.cell? ⟨w1.heap.size, 0, none⟩ = some (.int .i64 (Nr x z)) := by simp [go_sem, *]
        have p3 : w3.cell? ⟨w1.heap.size, 1, none⟩ = some (.int .i64 (Nr y z)) := by simp [go_sem, *]
        go_wp2
        refine bodyPost_ret (v := .tuple #[.agg #[.int .i64 (Nr x z), .int .i64 (Nr y z)], .int .i64 0]) (by simp [results, Try.results43, go_sem, p0, p1]) rfl ⟨by rw [HV.out.1, HV.out.2, HV.out.2], by repeat (with_reducible first | exact Below.refl _ _ | assumption | refine Bel.alloc ?_ _ | refine Bel.step (by assumption) ?_ | refine Below.drew ?_ | refine Bel.drewN ?_ _ | refine Below.setCell ?_ (by first | exact Nat.le_refl _ | omega | (simp; done) | (simp; omega)) _)⟩
    · have ho' : okP (Nr x z, Nr y z) = false := by simpa using ho
      have HV := Lib.hid <| show rndC x y z = 3 ∧ ∀ u, rndV x y z u = 0 from ⟨by simp [rndC, hr, ho'], fun u => by simp [rndV, hr, ho']⟩
      have HO := Lib.hid <| (okPs_one (Nr x z) (Nr y z)).trans ho'
      have hop : okPs [(Nr x z, Nr y z)] = false := HO.out
      clear ho ho'
      go_enter Try.func43, Try.ntmps43
      go_wp2_with fail
      go_at_call 92; refine (l25Is_c _ _ _ _).mono ?_; rintro e w1 ⟨rfl, hb1⟩; obtain ⟨hc1, hf1, hz1⟩ := bel hb1; (try simp only [World.size_drew, World.cell?_drew, World.frozen?_drew] at hc1 hf1 hz1); (try simp only [World.heap_drewN, World.cell?_drewN, World.frozen?_drewN] at hc1 hf1 hz1); (try have hl1 : w.heap.size < w1.heap.size := by (have hq := hb1.size; (try simp at hq); omega)); (try have hm1 : w.heap.size + 1 < w1.heap.size := by (have hq := hb1.size; (try simp at hq); omega)); (try have hn1 : w.heap.size + 1 + 1 < w1.heap.size := by (have hq := hb1.size; (try simp at hq); omega)); (try have hp1 : b < w1.heap.size := by (have hq := hb1.size; (try simp at hq); omega)); (try have ho1 : b' < w1.heap.size := by (have hq := hb1.size; (try simp at hq); omega))
      go_wp2
      go_region_held3 (fun w' => w'.cell? ⟨w.heap.size, 0, none⟩ = some (.int .i64 x) ∧ w'.cell? ⟨w.heap.size, 1, none⟩ = some (.int .i64 y) ∧ w'.cell? ⟨w.heap.size, 2, none⟩ = some (.int .i64 z)) (simp [go_sem, *])
          (first | (go_at_call 109; refine (l01Nearest_c _ _ (by omega) (by omega) (by omega) (by omega) (by omega) _).mono ?_; rintro e w' ⟨rfl, rfl⟩))
      all_goals
        obtain ⟨w2, hw2⟩ : ∃ w2, w2 = (w1.alloc (.cells #[.int .i64 (Nr x z), .int .i64 (Nr y z)] 66)).drew := ⟨_, rfl⟩
        have hb2 : Below w1.heap.size w1 w2 := by rw [hw2]; repeat (with_reducible first | exact Below.refl _ _ | assumption | refine Bel.alloc ?_ _ | refine Bel.step (by assumption) ?_ | refine Below.drew ?_ | refine Bel.drewN ?_ _ | refine Below.setCell ?_ (by first | exact Nat.le_refl _ | omega | (simp; done) | (simp; omega)) _)
        have q0 : w2.cell? ⟨w1.heap.size, 0, none⟩ = some (.int .i64 (Nr x z)) := by rw [hw2]; simp [go_sem]
        have q1 : w2.cell? ⟨w1.heap.size, 1, none⟩ = some (.int .i64 (Nr y z)) := by rw [hw2]; simp [go_sem]
        have hs2 : w2.heap.size = w1.heap.size + 1 := by rw [hw2]; simp [go_sem]
        have hbel2 : Below w.heap.size w w2 := by rw [hw2]; repeat (with_reducible first | exact Below.refl _ _ | assumption | refine Bel.alloc ?_ _ | refine Bel.step (by assumption) ?_ | refine Below.drew ?_ | refine Bel.drewN ?_ _ | refine Below.setCell ?_ (by first | exact Nat.le_refl _ | omega | (simp; done) | (simp; omega)) _)
        rw [← hw2]
        clear hw2
        obtain ⟨hc2, hf2, hz2⟩ := bel hb2
        have e0 : w2.cell? ⟨w.heap.size + 1, 0, none⟩ = some (.int .i64 0) := by simp [go_sem, *]
        have e1 : w2.cell? ⟨w.heap.size + 1, 1, none⟩ = some (.int .i64 0) := by simp [go_sem, *]
        go_wp2_with fail
        have hP : Prs (w2.alloc (.cells #[.int .i64 (Nr x z), .int .i64 (Nr y z)] 66)) (some ⟨w1.heap.size + 1, 0, none⟩) [(Nr x z, Nr y z)] := by rw [← hs2]; exact Prs.one _ _ _ _
        refine (l22Points_c _ 1 [(Nr x z, Nr y z)] (by simp) _ hP).mono ?_; rintro e w3 ⟨rfl, hb3⟩
        obtain ⟨hc3, hf3, hz3⟩ := bel hb3
        rw [hop]
        have p0 : w3.cell? ⟨w.heap.size + 1, 0, none⟩ = some (.int .i64 0) := by simp [go_sem, *]
        have p1 : w3.cell? ⟨w.heap.size + 1, 1, none⟩ = some (.int .i64 0) := by simp [go_sem, *]
        have p2 : w3.cell? ⟨w1.heap.size, 0, none⟩ = some (.int .i64 (Nr x z)) := by simp [go_sem, *]
        have p3 : w3.cell? ⟨w1.heap.size, 1, none⟩ = some (.int .i64 (Nr y z)) := by simp [go_sem, *]
        go_wp2
        refine bodyPost_ret (v := .tuple #[.agg #[.int .i64 0, .int .i64 0], .int .i64 3]) (by simp [results, Try.results43, go_sem, p0, p1]) rfl ⟨by rw [HV.out.1, HV.out.2, HV.out.2], by repeat (with_reducible first | exact Below.refl _ _ | assumption | refine Bel.alloc ?_ _ | refine Bel.step (by assumption) ?_ | refine Below.drew ?_ | refine Bel.drewN ?_ _ | refine Below.setCell ?_ (by first | exact Nat.le_refl _ | omega | (simp; done) | (simp; omega)) _)⟩
  · have hr' : ratB x y z = false := by simpa using hr
    have HV := Lib.hid <| show rndC x y z = 1 ∧ ∀ u, rndV x y z u = 0 from ⟨by simp [rndC, hr'], fun u => by simp [rndV, hr']⟩
    clear hr
    go_enter Try.func43, Try.ntmps43
    go_wp2_with (first | (go_at_call 92; refine (l25Is_c _ _ _ _).mono ?_; rintro e w1 ⟨rfl, hb1⟩; obtain ⟨hc1, hf1, hz1⟩ := bel hb1; (try simp only [World.size_drew, World.cell?_drew, World.frozen?_drew] at hc1 hf1 hz1); (try simp only [World.heap_drewN, World.cell?_drewN, World.frozen?_drewN] at hc1 hf1 hz1); (try have hl1 : w.heap.size < w1.heap.size := by (have hq := hb1.size; (try simp at hq); omega)); (try have hm1 : w.heap.size + 1 < w1.heap.size := by (have hq := hb1.size; (try simp at hq); omega)); (try have hn1 : w.heap.size + 1 + 1 < w1.heap.size := by (have hq := hb1.size; (try simp at hq); omega)); (try have hp1 : b < w1.heap.size := by (have hq := hb1.size; (try simp at hq); omega)); (try have ho1 : b' < w1.heap.size := by (have hq := hb1.size; (try simp at hq); omega))))
    have e0 : w1.cell? ⟨w.heap.size + 1, 0, none⟩ = some (.int .i64 0) := by simp [go_sem, *]
    have e1 : w1.cell? ⟨w.heap.size + 1, 1, none⟩ = some (.int .i64 0) := by simp [go_sem, *]
    refine bodyPost_ret (v := .tuple #[.agg #[.int .i64 0, .int .i64 0], .int .i64 1]) (by simp [results, Try.results43, go_sem, e0, e1]) rfl ⟨by rw [HV.out.1, HV.out.2, HV.out.2], by repeat (with_reducible first | exact Below.refl _ _ | assumption | refine Bel.alloc ?_ _ | refine Bel.step (by assumption) ?_ | refine Below.drew ?_ | refine Bel.drewN ?_ _ | refine Below.setCell ?_ (by first | exact Nat.le_refl _ | omega | (simp; done) | (simp; omega)) _)⟩
set_option maxHeartbeats 800000 in
theorem RoundPoint_I (x y z : Int) (w : World) :
    Calls Try.prog 42 #[.agg #[.int .i64 x, .int .i64 y, .int .i64 z]] w fun e w' => e = .returned (.tuple #[.agg #[.int .i64 (rndV x y z x), .int .i64 (rndV x y z y)], .int .i64 (rndC x y z)]) ∧ Below w.heap.size w w' := by
  by_cases hr : ratB x y z = true
  · obtain ⟨a1, a2, a3, a4, a5, a6⟩ := ratB_bd hr
    by_cases ho : okP (Nr x z, Nr y z) = true
    · have HV := Lib.hid <| show rndC x y z = 0 ∧ ∀ u, rndV x y z u = Nr u z from ⟨by simp [rndC, hr, ho], fun u => by simp [rndV, hr, ho]⟩
      have HO := Lib.hid <| (okPs_one (Nr x z) (Nr y z)).trans ho
      have hop : okPs [(Nr x z, Nr y z)] = true := HO.out
      clear ho
      go_enter Try.func42, Try.ntmps42
      go_wp2_with fail
      go_at_call 90; refine (isRational_c _ _ _ _).mono ?_; rintro e w1 ⟨rfl, hb1⟩; obtain ⟨hc1, hf1, hz1⟩ := bel hb1; (try simp only [World.size_drew, World.cell?_drew, World.frozen?_drew] at hc1 hf1 hz1); (try simp only [World.heap_drewN, World.cell?_drewN, World.frozen?_drewN] at hc1 hf1 hz1); (try have hl1 : w.heap.size < w1.heap.size := by (have hq := hb1.size; (try simp at hq); omega)); (try have hm1 : w.heap.size + 1 < w1.heap.size := by (have hq := hb1.size; (try simp at hq); omega)); (try have hn1 : w.heap.size + 1 + 1 < w1.heap.size := by (have hq := hb1.size; (try simp at hq); omega)); (try have hp1 : b < w1.heap.size := by (have hq := hb1.size; (try simp at hq); omega)); (try have ho1 : b' < w1.heap.size := by (have hq := hb1.size; (try simp at hq); omega))
      go_wp2
      go_region_held3 (fun w' => w'.cell? ⟨w.heap.size, 0, none⟩ = some (.int .i64 x) ∧ w'.cell? ⟨w.heap.size, 1, none⟩ = some (.int .i64 y) ∧ w'.cell? ⟨w.heap.size, 2, none⟩ = some (.int .i64 z)) (simp [go_sem, *])
          (first | (go_at_call 107; refine (near_c _ _ (by omega) (by omega) (by omega) (by omega) (by omega) _).mono ?_; rintro e w' ⟨rfl, rfl⟩))
      all_goals
        obtain ⟨w2, hw2⟩ : ∃ w2, w2 = (w1.alloc (.cells #[.int .i64 (Nr x z), .int .i64 (Nr y z)] 66)).drew := ⟨_, rfl⟩
        have hb2 : Below w1.heap.size w1 w2 := by rw [hw2]; repeat (with_reducible first | exact Below.refl _ _ | assumption | refine Bel.alloc ?_ _ | refine Bel.step (by assumption) ?_ | refine Below.drew ?_ | refine Bel.drewN ?_ _ | refine Below.setCell ?_ (by first | exact Nat.le_refl _ | omega | (simp; done) | (simp; omega)) _)
        have q0 : w2.cell? ⟨w1.heap.size, 0, none⟩ = some (.int .i64 (Nr x z)) := by rw [hw2]; simp [go_sem]
        have q1 : w2.cell? ⟨w1.heap.size, 1, none⟩ = some (.int .i64 (Nr y z)) := by rw [hw2]; simp [go_sem]
        have hs2 : w2.heap.size = w1.heap.size + 1 := by rw [hw2]; simp [go_sem]
        have hbel2 : Below w.heap.size w w2 := by rw [hw2]; repeat (with_reducible first | exact Below.refl _ _ | assumption | refine Bel.alloc ?_ _ | refine Bel.step (by assumption) ?_ | refine Below.drew ?_ | refine Bel.drewN ?_ _ | refine Below.setCell ?_ (by first | exact Nat.le_refl _ | omega | (simp; done) | (simp; omega)) _)
        rw [← hw2]
        clear hw2
        obtain ⟨hc2, hf2, hz2⟩ := bel hb2
        have e0 : w2.cell? ⟨w.heap.size + 1, 0, none⟩ = some (.int .i64 0) := by simp [go_sem, *]
        have e1 : w2.cell? ⟨w.heap.size + 1, 1, none⟩ = some (.int .i64 0) := by simp [go_sem, *]
        go_wp2_with fail
        have hP : Prs (w2.alloc (.cells #[.int .i64 (Nr x z), .int .i64 (Nr y z)] 66)) (some ⟨w1.heap.size + 1, 0, none⟩) [(Nr x z, Nr y z)] := by rw [← hs2]; exact Prs.one _ _ _ _
        refine (arePoints_c _ 1 [(Nr x z, Nr y z)] (by simp) _ hP).mono ?_; rintro e w3 ⟨rfl, hb3⟩
        obtain ⟨hc3, hf3, hz3⟩ := bel hb3
        rw [hop]
        have p0 : w3.cell? ⟨w.heap.size + 1, 0, none⟩ = some (.int .i64 0) := by simp [go_sem, *]
        have p1 : w3.cell? ⟨w.heap.size + 1, 1, none⟩ = some (.int .i64 0) := by simp [go_sem, *]
        have p2 : w3.cell? ⟨w1.heap.size, 0, none⟩ = some (.int .i64 (Nr x z)) := by simp [go_sem, *]
        have p3 : w3.cell? ⟨w1.heap.size, 1, none⟩ = some (.int .i64 (Nr y z)) := by simp [go_sem, *]
        go_wp2
        refine bodyPost_ret (v := .tuple #[.agg #[.int .i64 (Nr x z), .int .i64 (Nr y z)], .int .i64 0]) (by simp [results, Try.results42, go_sem, p0, p1]) rfl ⟨by rw [HV.out.1, HV.out.2, HV.out.2], by repeat (with_reducible first | exact Below.refl _ _ | assumption | refine Bel.alloc ?_ _ | refine Bel.step (by assumption) ?_ | refine Below.drew ?_ | refine Bel.drewN ?_ _ | refine Below.setCell ?_ (by first | exact Nat.le_refl _ | omega | (simp; done) | (simp; omega)) _)⟩
    · have ho' : okP (Nr x z, Nr y z) = false := by simpa using ho
      have HV := Lib.hid <| show rndC x y z = 3 ∧ ∀ u, rndV x y z u = 0 from ⟨by simp [rndC, hr, ho'], fun u => by simp [rndV, hr, ho']⟩
      have HO := Lib.hid <| (okPs_one (Nr x z) (Nr y z)).trans ho'
      have hop : okPs [(Nr x z, Nr y z)] = false := HO.out
      clear ho ho'
      go_enter Try.func42, Try.ntmps42
      go_wp2_with fail
      go_at_call 90; refine (isRational_c _ _ _ _).mono ?_; rintro e w1 ⟨rfl, hb1⟩; obtain ⟨hc1, hf1, hz1⟩ := bel hb1; (try simp only [World.size_drew, World.cell?_drew, World.frozen?_drew] at hc1 hf1 hz1); (try simp only [World.heap_drewN, World.cell?_drewN, World.frozen?_drewN] at hc1 hf1 hz1); (try have hl1 : w.heap.size < w1.heap.size := by (have hq := hb1.size; (try simp at hq); omega)); (try have hm1 : w.heap.size + 1 < w1.heap.size := by (have hq := hb1.size; (try simp at hq); omega)); (try have hn1 : w.heap.size + 1 + 1 < w1.heap.size := by (have hq := hb1.size; (try simp at hq); omega)); (try have hp1 : b < w1.heap.size := by (have hq := hb1.size; (try simp at hq); omega)); (try have ho1 : b' < w1.heap.size := by (have hq := hb1.size; (try simp at hq); omega))
      go_wp2
      go_region_held3 (fun w' => w'.cell? ⟨w.heap.size, 0, none⟩ = some (.int .i64 x) ∧ w'.cell? ⟨w.heap.size, 1, none⟩ = some (.int .i64 y) ∧ w'.cell? ⟨w.heap.size, 2, none⟩ = some (.int .i64 z)) (simp [go_sem, *])
          (first | (go_at_call 107; refine (near_c _ _ (by omega) (by omega) (by omega) (by omega) (by omega) _).mono ?_; rintro e w' ⟨rfl, rfl⟩))
      all_goals
        obtain ⟨w2, hw2⟩ : ∃ w2, w2 = (w1.alloc (.cells #[.int .i64 (Nr x z), .int .i64 (Nr y z)] 66)).drew := ⟨_, rfl⟩
        have hb2 : Below w1.heap.size w1 w2 := by rw [hw2]; repeat (with_reducible first | exact Below.refl _ _ | assumption | refine Bel.alloc ?_ _ | refine Bel.step (by assumption) ?_ | refine Below.drew ?_ | refine Bel.drewN ?_ _ | refine Below.setCell ?_ (by first | exact Nat.le_refl _ | omega | (simp; done) | (simp; omega)) _)
        have q0 : w2.cell? ⟨w1.heap.size, 0, none⟩ = some (.int .i64 (Nr x z)) := by rw [hw2]; simp [go_sem]
        have q1 : w2.cell? ⟨w1.heap.size, 1, none⟩ = some (.int .i64 (Nr y z)) := by rw [hw2]; simp [go_sem]
        have hs2 : w2.heap.size = w1.heap.size + 1 := by rw [hw2]; simp [go_sem]
        have hbel2 : Below w.heap.size w w2 := by rw [hw2]; repeat (with_reducible first | exact Below.refl _ _ | assumption | refine Bel.alloc ?_ _ | refine Bel.step (by assumption) ?_ | refine Below.drew ?_ | refine Bel.drewN ?_ _ | refine Below.setCell ?_ (by first | exact Nat.le_refl _ | omega | (simp; done) | (simp; omega)) _)
        rw [← hw2]
        clear hw2
        obtain ⟨hc2, hf2, hz2⟩ := bel hb2
        have e0 : w2.cell? ⟨w.heap.size + 1, 0, none⟩ = some (.int .i64 0) := by simp [go_sem, *]
        have e1 : w2.cell? ⟨w.heap.size + 1, 1, none⟩ = some (.int .i64 0) := by simp [go_sem, *]
        go_wp2_with fail
        have hP : Prs (w2.alloc (.cells #[.int .i64 (Nr x z), .int .i64 (Nr y z)] 66)) (some ⟨w1.heap.size + 1, 0, none⟩) [(Nr x z, Nr y z)] := by rw [← hs2]; exact Prs.one _ _ _ _
        refine (arePoints_c _ 1 [(Nr x z, Nr y z)] (by simp) _ hP).mono ?_; rintro e w3 ⟨rfl, hb3⟩
        obtain ⟨hc3, hf3, hz3⟩ := bel hb3
        rw [hop]
        have p0 : w3.cell? ⟨w.heap.size + 1, 0, none⟩ = some (.int .i64 0) := by simp [go_sem, *]
        have p1 : w3.cell? ⟨w.heap.size + 1, 1, none⟩ = some (.int .i64 0) := by simp [go_sem, *]
        have p2 : w3.cell? ⟨w1.heap.size, 0, none⟩ = some (.int .i64 (Nr x z)) := by simp [go_sem, *]
        have p3 : w3.cell? ⟨w1.heap.size, 1, none⟩ = some (.int .i64 (Nr y z)) := by simp [go_sem, *]
        go_wp2
        refine bodyPost_ret (v := .tuple #[.agg #[.int .i64 0, .int .i64 0], .int .i64 3]) (by simp [results, Try.results42, go_sem, p0, p1]) rfl ⟨by rw [HV.out.1, HV.out.2, HV.out.2], by repeat (with_reducible first | exact Below.refl _ _ | assumption | refine Bel.alloc ?_ _ | refine Bel.step (by assumption) ?_ | refine Below.drew ?_ | refine Bel.drewN ?_ _ | refine Below.setCell ?_ (by first | exact Nat.le_refl _ | omega | (simp; done) | (simp; omega)) _)⟩
  · have hr' : ratB x y z = false := by simpa using hr
    have HV := Lib.hid <| show rndC x y z = 1 ∧ ∀ u, rndV x y z u = 0 from ⟨by simp [rndC, hr'], fun u => by simp [rndV, hr']⟩
    clear hr
    go_enter Try.func42, Try.ntmps42
    go_wp2_with (first | (go_at_call 90; refine (isRational_c _ _ _ _).mono ?_; rintro e w1 ⟨rfl, hb1⟩; obtain ⟨hc1, hf1, hz1⟩ := bel hb1; (try simp only [World.size_drew, World.cell?_drew, World.frozen?_drew] at hc1 hf1 hz1); (try simp only [World.heap_drewN, World.cell?_drewN, World.frozen?_drewN] at hc1 hf1 hz1); (try have hl1 : w.heap.size < w1.heap.size := by (have hq := hb1.size; (try simp at hq); omega)); (try have hm1 : w.heap.size + 1 < w1.heap.size := by (have hq := hb1.size; (try simp at hq); omega)); (try have hn1 : w.heap.size + 1 + 1 < w1.heap.size := by (have hq := hb1.size; (try simp at hq); omega)); (try have hp1 : b < w1.heap.size := by (have hq := hb1.size; (try simp at hq); omega)); (try have ho1 : b' < w1.heap.size := by (have hq := hb1.size; (try simp at hq); omega))))
    have e0 : w1.cell? ⟨w.heap.size + 1, 0, none⟩ = some (.int .i64 0) := by simp [go_sem, *]
    have e1 : w1.cell? ⟨w.heap.size + 1, 1, none⟩ = some (.int .i64 0) := by simp [go_sem, *]
    refine bodyPost_ret (v := .tuple #[.agg #[.int .i64 0, .int .i64 0], .int .i64 1]) (by simp [results, Try.results42, go_sem, e0, e1]) rfl ⟨by rw [HV.out.1, HV.out.2, HV.out.2], by repeat (with_reducible first | exact Below.refl _ _ | assumption | refine Bel.alloc ?_ _ | refine Bel.step (by assumption) ?_ | refine Below.drew ?_ | refine Bel.drewN ?_ _ | refine Below.setCell ?_ (by first | exact Nat.le_refl _ | omega | (simp; done) | (simp; omega)) _)⟩
end Go.Proofs.Ythfphjbaglgacaa
