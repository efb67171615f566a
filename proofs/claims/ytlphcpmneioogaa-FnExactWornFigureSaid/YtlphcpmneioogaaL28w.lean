/- Chapter 28: the figure that a worn rule shows. Conditions: as stated at each contract. -/
import Derived.Test.YtlphcpmneioogaaProg
import Derived.Test.YtlphcpmneioogaaBase
import Derived.Test.YtlphcpmneioogaaRw
import Derived.Test.YtlphcpmneioogaaL01
import Derived.Test.YtlphcpmneioogaaCp
import Derived.Test.YtlphcpmneioogaaL18
import Derived.Test.YtlphcpmneioogaaL23
import Derived.Test.YtlphcpmneioogaaL03
import Derived.Test.YtlphcpmneioogaaL04
import Derived.Test.YtlphcpmneioogaaL05
import Derived.Test.YtlphcpmneioogaaL05b
import Derived.Test.YtlphcpmneioogaaL06
import Derived.Test.YtlphcpmneioogaaL28
import Derived.WalkKit
import Derived.WalkSpells
import Derived.WalkLawsBesides
import Derived.Lib.Hide
import Derived.Deep.QuietTactic
import Derived.BigQuiet
import Derived.Deep.Draws
import Derived.Deep.RegionHeld3
import Derived.Deep.Cut
namespace Go.Proofs.Ytlphcpmneioogaa
open Go.RowKit
set_option linter.unusedVariables false
set_option linter.unusedSimpArgs false
/-- The code of a scale and a figure. -/
def shC (sc d t : Int) : Int := if okF d t = true then (if inB sc 0 5 = true then (if sc = 5 ∧ t ≠ 0 then 2 else 0) else 2) else 1
theorem sh_cases (sc d t : Int) : (okF d t = false ∧ Hid (shC sc d t = 1)) ∨ (okF d t = true ∧ inB sc 0 5 = false ∧ Hid (shC sc d t = 2)) ∨ (okF d t = true ∧ inB sc 0 5 = true ∧ sc = 5 ∧ t ≠ 0 ∧ Hid (shC sc d t = 2)) ∨ (okF d t = true ∧ inB sc 0 5 = true ∧ sc = 5 ∧ t = 0 ∧ Hid (shC sc d t = 0)) ∨ (okF d t = true ∧ inB sc 0 5 = true ∧ sc ≠ 5 ∧ Hid (shC sc d t = 0)) := by
  unfold Hid
  cases h1 : okF d t with
  | false => exact .inl ⟨rfl, by simp [shC, h1]⟩
  | true =>
    cases h2 : inB sc 0 5 with
    | false => exact .inr (.inl ⟨rfl, rfl, by simp [shC, h1, h2]⟩)
    | true =>
      by_cases h3 : sc = 5
      · by_cases h4 : t = 0
        · exact .inr (.inr (.inr (.inl ⟨rfl, rfl, h3, h4, by subst h4; simp [shC, h1, h2]⟩)))
        · exact .inr (.inr (.inl ⟨rfl, rfl, h3, h4, by simp [shC, h1, h2, h3, h4]⟩))
      · exact .inr (.inr (.inr (.inr ⟨rfl, rfl, h3, by simp [shC, h1, h2, h3]⟩)))
theorem IsScale_S (n : Int) (w : World) :
    Calls Try.prog 38 #[.int .i64 n] w fun e w' => e = .returned (.bool (inB n 0 5)) ∧ w = w' := by
  go_enter Try.func38, Try.ntmps38
  go_wp2_with (first | (go_at_call 14; refine (l01In_c _ _ _ _).mono ?_; rintro e w' ⟨rfl, rfl⟩))
  go_ret
  exact ⟨rfl, rfl⟩
theorem IsScale_I (n : Int) (w : World) :
    Calls Try.prog 45 #[.int .i64 n] w fun e w' => e = .returned (.bool (inB n 0 5)) ∧ w = w' := by
  go_enter Try.func45, Try.ntmps45
  go_wp2_with (first | (go_at_call 21; refine (within_c _ _ _ _).mono ?_; rintro e w' ⟨rfl, rfl⟩))
  go_ret
  exact ⟨rfl, rfl⟩
theorem l05Length_c (n : Int) (w : World) :
    Calls Try.prog 24 #[.int .i64 n] w fun e w' => e = .returned (.bool (inB n 1 100000)) ∧ w = w' := by
  go_enter Try.func24, Try.ntmps24
  go_wp2_with (first | (go_at_call 14; refine (l01In_c _ _ _ _).mono ?_; rintro e w' ⟨rfl, rfl⟩))
  go_ret
  exact ⟨rfl, rfl⟩
theorem isLength_c (n : Int) (w : World) :
    Calls Try.prog 32 #[.int .i64 n] w fun e w' => e = .returned (.bool (inB n 1 100000)) ∧ w = w' := by
  go_enter Try.func32, Try.ntmps32
  go_wp2_with (first | (go_at_call 21; refine (within_c _ _ _ _).mono ?_; rintro e w' ⟨rfl, rfl⟩))
  go_ret
  exact ⟨rfl, rfl⟩
theorem l05Code_c (sc d t : Int) (w : World) :
    Calls Try.prog 23 #[.int .i64 sc, .agg #[.int .i64 d, .int .i64 t]] w fun e w' => e = .returned (.int .i64 (shC sc d t)) ∧ Below w.heap.size w w' := by
  rcases sh_cases sc d t with ⟨h1, HV⟩ | ⟨h1, h2, HV⟩ | ⟨h1, h2, rfl, h4, HV⟩ | ⟨h1, h2, rfl, rfl, HV⟩ | ⟨h1, h2, h3, HV⟩
  · go_enter Try.func23, Try.ntmps23
    go_wp2_with (first | (go_at_call 10; refine (IsFigure_S _ _ _).mono ?_; rintro e w1 ⟨rfl, hb1⟩; obtain ⟨hc1, hf1, hz1⟩ := bel hb1; (try simp only [World.size_drew, World.cell?_drew, World.frozen?_drew] at hc1 hf1 hz1); (try simp only [World.heap_drewN, World.cell?_drewN, World.frozen?_drewN] at hc1 hf1 hz1); (try have hl1 : w.heap.size < w1.heap.size := by (have hq := hb1.size; (try simp at hq); omega)); (try have hm1 : w.heap.size + 1 < w1.heap.size := by (have hq := hb1.size; (try simp at hq); omega)); (try have hn1 : w.heap.size + 1 + 1 < w1.heap.size := by (have hq := hb1.size; (try simp at hq); omega)); (try have hp1 : b < w1.heap.size := by (have hq := hb1.size; (try simp at hq); omega)); (try have ho1 : b' < w1.heap.size := by (have hq := hb1.size; (try simp at hq); omega))))
    go_ret
    exact ⟨by rw [HV.out]; rfl, by repeat (with_reducible first | exact Below.refl _ _ | assumption | refine Bel.alloc ?_ _ | refine Bel.step (by assumption) ?_ | refine Below.drew ?_ | refine Bel.drewN ?_ _ | refine Below.setCell ?_ (by first | exact Nat.le_refl _ | omega | (simp; done) | (simp; omega)) _)⟩
  · go_enter Try.func23, Try.ntmps23
    go_wp2_with (first | (go_at_call 10; refine (IsFigure_S _ _ _).mono ?_; rintro e w1 ⟨rfl, hb1⟩; obtain ⟨hc1, hf1, hz1⟩ := bel hb1; (try simp only [World.size_drew, World.cell?_drew, World.frozen?_drew] at hc1 hf1 hz1); (try simp only [World.heap_drewN, World.cell?_drewN, World.frozen?_drewN] at hc1 hf1 hz1); (try have hl1 : w.heap.size < w1.heap.size := by (have hq := hb1.size; (try simp at hq); omega)); (try have hm1 : w.heap.size + 1 < w1.heap.size := by (have hq := hb1.size; (try simp at hq); omega)); (try have hn1 : w.heap.size + 1 + 1 < w1.heap.size := by (have hq := hb1.size; (try simp at hq); omega)); (try have hp1 : b < w1.heap.size := by (have hq := hb1.size; (try simp at hq); omega)); (try have ho1 : b' < w1.heap.size := by (have hq := hb1.size; (try simp at hq); omega))) | (go_at_call 38; refine (IsScale_S _ _).mono ?_; rintro e w' ⟨rfl, rfl⟩))
    go_ret
    exact ⟨by rw [HV.out]; rfl, by repeat (with_reducible first | exact Below.refl _ _ | assumption | refine Bel.alloc ?_ _ | refine Bel.step (by assumption) ?_ | refine Below.drew ?_ | refine Bel.drewN ?_ _ | refine Below.setCell ?_ (by first | exact Nat.le_refl _ | omega | (simp; done) | (simp; omega)) _)⟩
  · have hb : (t != 0) = true := by simpa using h4
    clear h4
    go_enter Try.func23, Try.ntmps23
    go_wp2_with (first | (go_at_call 10; refine (IsFigure_S _ _ _).mono ?_; rintro e w1 ⟨rfl, hb1⟩; obtain ⟨hc1, hf1, hz1⟩ := bel hb1; (try simp only [World.size_drew, World.cell?_drew, World.frozen?_drew] at hc1 hf1 hz1); (try simp only [World.heap_drewN, World.cell?_drewN, World.frozen?_drewN] at hc1 hf1 hz1); (try have hl1 : w.heap.size < w1.heap.size := by (have hq := hb1.size; (try simp at hq); omega)); (try have hm1 : w.heap.size + 1 < w1.heap.size := by (have hq := hb1.size; (try simp at hq); omega)); (try have hn1 : w.heap.size + 1 + 1 < w1.heap.size := by (have hq := hb1.size; (try simp at hq); omega)); (try have hp1 : b < w1.heap.size := by (have hq := hb1.size; (try simp at hq); omega)); (try have ho1 : b' < w1.heap.size := by (have hq := hb1.size; (try simp at hq); omega))) | (go_at_call 38; refine (IsScale_S _ _).mono ?_; rintro e w' ⟨rfl, rfl⟩))
    go_ret
    exact ⟨by rw [HV.out]; rfl, by repeat (with_reducible first | exact Below.refl _ _ | assumption | refine Bel.alloc ?_ _ | refine Bel.step (by assumption) ?_ | refine Below.drew ?_ | refine Bel.drewN ?_ _ | refine Below.setCell ?_ (by first | exact Nat.le_refl _ | omega | (simp; done) | (simp; omega)) _)⟩
  · go_enter Try.func23, Try.ntmps23
    go_wp2_with (first | (go_at_call 10; refine (IsFigure_S _ _ _).mono ?_; rintro e w1 ⟨rfl, hb1⟩; obtain ⟨hc1, hf1, hz1⟩ := bel hb1; (try simp only [World.size_drew, World.cell?_drew, World.frozen?_drew] at hc1 hf1 hz1); (try simp only [World.heap_drewN, World.cell?_drewN, World.frozen?_drewN] at hc1 hf1 hz1); (try have hl1 : w.heap.size < w1.heap.size := by (have hq := hb1.size; (try simp at hq); omega)); (try have hm1 : w.heap.size + 1 < w1.heap.size := by (have hq := hb1.size; (try simp at hq); omega)); (try have hn1 : w.heap.size + 1 + 1 < w1.heap.size := by (have hq := hb1.size; (try simp at hq); omega)); (try have hp1 : b < w1.heap.size := by (have hq := hb1.size; (try simp at hq); omega)); (try have ho1 : b' < w1.heap.size := by (have hq := hb1.size; (try simp at hq); omega))) | (go_at_call 38; refine (IsScale_S _ _).mono ?_; rintro e w' ⟨rfl, rfl⟩))
    go_ret
    exact ⟨by rw [HV.out]; rfl, by repeat (with_reducible first | exact Below.refl _ _ | assumption | refine Bel.alloc ?_ _ | refine Bel.step (by assumption) ?_ | refine Below.drew ?_ | refine Bel.drewN ?_ _ | refine Below.setCell ?_ (by first | exact Nat.le_refl _ | omega | (simp; done) | (simp; omega)) _)⟩
  · have hb : (sc == 5) = false := by simpa using h3
    clear h3
    go_enter Try.func23, Try.ntmps23
    go_wp2_with (first | (go_at_call 10; refine (IsFigure_S _ _ _).mono ?_; rintro e w1 ⟨rfl, hb1⟩; obtain ⟨hc1, hf1, hz1⟩ := bel hb1; (try simp only [World.size_drew, World.cell?_drew, World.frozen?_drew] at hc1 hf1 hz1); (try simp only [World.heap_drewN, World.cell?_drewN, World.frozen?_drewN] at hc1 hf1 hz1); (try have hl1 : w.heap.size < w1.heap.size := by (have hq := hb1.size; (try simp at hq); omega)); (try have hm1 : w.heap.size + 1 < w1.heap.size := by (have hq := hb1.size; (try simp at hq); omega)); (try have hn1 : w.heap.size + 1 + 1 < w1.heap.size := by (have hq := hb1.size; (try simp at hq); omega)); (try have hp1 : b < w1.heap.size := by (have hq := hb1.size; (try simp at hq); omega)); (try have ho1 : b' < w1.heap.size := by (have hq := hb1.size; (try simp at hq); omega))) | (go_at_call 38; refine (IsScale_S _ _).mono ?_; rintro e w' ⟨rfl, rfl⟩))
    go_ret
    exact ⟨by rw [HV.out]; rfl, by repeat (with_reducible first | exact Below.refl _ _ | assumption | refine Bel.alloc ?_ _ | refine Bel.step (by assumption) ?_ | refine Below.drew ?_ | refine Bel.drewN ?_ _ | refine Below.setCell ?_ (by first | exact Nat.le_refl _ | omega | (simp; done) | (simp; omega)) _)⟩
theorem checkShown_c (sc d t : Int) (A : Option Addr) (c : Nat) (w : World) (hA : Prs w A [(d, t)]) :
    Calls Try.prog 31 #[.int .i64 sc, .slice A 1 c] w fun e w' => e = .returned (.int .i64 (shC sc d t)) ∧ Below w.heap.size w w' := by
  have HO := Lib.hid (show okFs [(d, t)] = okF d t by simp [okFs])
  obtain ⟨b, o, rfl, hbb, ya0, ya1⟩ := hA.at_ 0 (by simp)
  have HA := Lib.hid hA
  clear hA
  simp only [List.getElem_cons_zero, Nat.zero_mul, Nat.add_zero] at ya0 ya1
  rcases sh_cases sc d t with ⟨h1, HV⟩ | ⟨h1, h2, HV⟩ | ⟨h1, h2, rfl, h4, HV⟩ | ⟨h1, h2, rfl, rfl, HV⟩ | ⟨h1, h2, h3, HV⟩
  · rw [h1] at HO
    go_enter Try.func31, Try.ntmps31
    go_wp2_with fail
    go_at_call 44; refine (areFigures_c (some ⟨b, o, none⟩) c [(d, t)] (by simp) _ HA.out).mono ?_; rintro e w1 ⟨rfl, hb1⟩; obtain ⟨hc1, hf1, hz1⟩ := bel hb1; (try simp only [World.size_drew, World.cell?_drew, World.frozen?_drew] at hc1 hf1 hz1); (try simp only [World.heap_drewN, World.cell?_drewN, World.frozen?_drewN] at hc1 hf1 hz1); (try have hl1 : w.heap.size < w1.heap.size := by (have hq := hb1.size; (try simp at hq); omega)); (try have hm1 : w.heap.size + 1 < w1.heap.size := by (have hq := hb1.size; (try simp at hq); omega)); (try have hn1 : w.heap.size + 1 + 1 < w1.heap.size := by (have hq := hb1.size; (try simp at hq); omega)); (try have hp1 : b < w1.heap.size := by (have hq := hb1.size; (try simp at hq); omega)); (try have ho1 : b' < w1.heap.size := by (have hq := hb1.size; (try simp at hq); omega))
    rw [HO.out]
    go_wp2
    go_ret
    exact ⟨by rw [HV.out]; rfl, by repeat (with_reducible first | exact Below.refl _ _ | assumption | refine Bel.alloc ?_ _ | refine Bel.step (by assumption) ?_ | refine Below.drew ?_ | refine Bel.drewN ?_ _ | refine Below.setCell ?_ (by first | exact Nat.le_refl _ | omega | (simp; done) | (simp; omega)) _)⟩
  · rw [h1] at HO
    go_enter Try.func31, Try.ntmps31
    go_wp2_with fail
    go_at_call 44; refine (areFigures_c (some ⟨b, o, none⟩) c [(d, t)] (by simp) _ HA.out).mono ?_; rintro e w1 ⟨rfl, hb1⟩; obtain ⟨hc1, hf1, hz1⟩ := bel hb1; (try simp only [World.size_drew, World.cell?_drew, World.frozen?_drew] at hc1 hf1 hz1); (try simp only [World.heap_drewN, World.cell?_drewN, World.frozen?_drewN] at hc1 hf1 hz1); (try have hl1 : w.heap.size < w1.heap.size := by (have hq := hb1.size; (try simp at hq); omega)); (try have hm1 : w.heap.size + 1 < w1.heap.size := by (have hq := hb1.size; (try simp at hq); omega)); (try have hn1 : w.heap.size + 1 + 1 < w1.heap.size := by (have hq := hb1.size; (try simp at hq); omega)); (try have hp1 : b < w1.heap.size := by (have hq := hb1.size; (try simp at hq); omega)); (try have ho1 : b' < w1.heap.size := by (have hq := hb1.size; (try simp at hq); omega))
    rw [HO.out]
    go_wp2_with (first | (go_at_call 45; refine (IsScale_I _ _).mono ?_; rintro e w' ⟨rfl, rfl⟩))
    go_ret
    exact ⟨by rw [HV.out]; rfl, by repeat (with_reducible first | exact Below.refl _ _ | assumption | refine Bel.alloc ?_ _ | refine Bel.step (by assumption) ?_ | refine Below.drew ?_ | refine Bel.drewN ?_ _ | refine Below.setCell ?_ (by first | exact Nat.le_refl _ | omega | (simp; done) | (simp; omega)) _)⟩
  · rw [h1] at HO
    have hb : (t != 0) = true := by simpa using h4
    clear h4
    go_enter Try.func31, Try.ntmps31
    go_wp2_with fail
    go_at_call 44; refine (areFigures_c (some ⟨b, o, none⟩) c [(d, t)] (by simp) _ HA.out).mono ?_; rintro e w1 ⟨rfl, hb1⟩; obtain ⟨hc1, hf1, hz1⟩ := bel hb1; (try simp only [World.size_drew, World.cell?_drew, World.frozen?_drew] at hc1 hf1 hz1); (try simp only [World.heap_drewN, World.cell?_drewN, World.frozen?_drewN] at hc1 hf1 hz1); (try have hl1 : w.heap.size < w1.heap.size := by (have hq := hb1.size; (try simp at hq); omega)); (try have hm1 : w.heap.size + 1 < w1.heap.size := by (have hq := hb1.size; (try simp at hq); omega)); (try have hn1 : w.heap.size + 1 + 1 < w1.heap.size := by (have hq := hb1.size; (try simp at hq); omega)); (try have hp1 : b < w1.heap.size := by (have hq := hb1.size; (try simp at hq); omega)); (try have ho1 : b' < w1.heap.size := by (have hq := hb1.size; (try simp at hq); omega))
    rw [HO.out]
    go_wp2_with (first | (go_at_call 45; refine (IsScale_I _ _).mono ?_; rintro e w' ⟨rfl, rfl⟩))
    go_loopw [6, 15] (fun _ i wr => i = .int .i64 0 ∧ Below w.heap.size w wr) (fun _ _ _ => 0)
    case atStart => exact ⟨rfl, by repeat (with_reducible first | exact Below.refl _ _ | assumption | refine Bel.alloc ?_ _ | refine Bel.step (by assumption) ?_ | refine Below.drew ?_ | refine Bel.drewN ?_ _ | refine Below.setCell ?_ (by first | exact Nat.le_refl _ | omega | (simp; done) | (simp; omega)) _)⟩
    case round =>
      obtain ⟨rfl, hbel⟩ := hrel
      have c0 : wr.cell? ⟨b, o, none⟩ = some (.int .i64 d) := (hbel.cell (p := ⟨b, o, none⟩) hbb).trans ya0
      have c1 : wr.cell? ⟨b, o + 1, none⟩ = some (.int .i64 t) := (hbel.cell (p := ⟨b, o + 1, none⟩) hbb).trans ya1
      clear hb1 hc1 hf1 hz1 ya0 ya1
      go_wp2
      go_ret
      exact ⟨by rw [HV.out]; rfl, by repeat (with_reducible first | exact Below.refl _ _ | assumption | refine Bel.alloc ?_ _ | refine Bel.step (by assumption) ?_ | refine Below.drew ?_ | refine Bel.drewN ?_ _ | refine Below.setCell ?_ (by first | exact Nat.le_refl _ | omega | (simp; done) | (simp; omega)) _)⟩
  · rw [h1] at HO
    go_enter Try.func31, Try.ntmps31
    go_wp2_with fail
    go_at_call 44; refine (areFigures_c (some ⟨b, o, none⟩) c [(d, 0)] (by simp) _ HA.out).mono ?_; rintro e w1 ⟨rfl, hb1⟩; obtain ⟨hc1, hf1, hz1⟩ := bel hb1; (try simp only [World.size_drew, World.cell?_drew, World.frozen?_drew] at hc1 hf1 hz1); (try simp only [World.heap_drewN, World.cell?_drewN, World.frozen?_drewN] at hc1 hf1 hz1); (try have hl1 : w.heap.size < w1.heap.size := by (have hq := hb1.size; (try simp at hq); omega)); (try have hm1 : w.heap.size + 1 < w1.heap.size := by (have hq := hb1.size; (try simp at hq); omega)); (try have hn1 : w.heap.size + 1 + 1 < w1.heap.size := by (have hq := hb1.size; (try simp at hq); omega)); (try have hp1 : b < w1.heap.size := by (have hq := hb1.size; (try simp at hq); omega)); (try have ho1 : b' < w1.heap.size := by (have hq := hb1.size; (try simp at hq); omega))
    rw [HO.out]
    go_wp2_with (first | (go_at_call 45; refine (IsScale_I _ _).mono ?_; rintro e w' ⟨rfl, rfl⟩))
    go_loopw [6, 15] (fun _ i wr => ∃ k : Nat, k ≤ 1 ∧ i = .int .i64 k ∧ Below w.heap.size w wr) (fun _ i _ => 1 - (intOf i).toNat)
    case atStart => exact ⟨0, Nat.zero_le _, rfl, by repeat (with_reducible first | exact Below.refl _ _ | assumption | refine Bel.alloc ?_ _ | refine Bel.step (by assumption) ?_ | refine Below.drew ?_ | refine Bel.drewN ?_ _ | refine Below.setCell ?_ (by first | exact Nat.le_refl _ | omega | (simp; done) | (simp; omega)) _)⟩
    case round =>
      obtain ⟨k, hk, rfl, hbel⟩ := hrel
      have c0 : wr.cell? ⟨b, o, none⟩ = some (.int .i64 d) := (hbel.cell (p := ⟨b, o, none⟩) hbb).trans ya0
      have c1 : wr.cell? ⟨b, o + 1, none⟩ = some (.int .i64 0) := (hbel.cell (p := ⟨b, o + 1, none⟩) hbb).trans ya1
      clear hb1 hc1 hf1 hz1 ya0 ya1
      rcases (show k = 0 ∨ k = 1 by omega) with rfl | rfl
      · go_wp2
        go_roundw
        case rel => exact ⟨1, by omega, by go_num, by repeat (with_reducible first | exact Below.refl _ _ | assumption | refine Bel.alloc ?_ _ | refine Bel.step (by assumption) ?_ | refine Below.drew ?_ | refine Bel.drewN ?_ _ | refine Below.setCell ?_ (by first | exact Nat.le_refl _ | omega | (simp; done) | (simp; omega)) _)⟩
        case measure => simp [intOf]
      · go_wp2
        go_ret
        exact ⟨by rw [HV.out]; rfl, by repeat (with_reducible first | exact Below.refl _ _ | assumption | refine Bel.alloc ?_ _ | refine Bel.step (by assumption) ?_ | refine Below.drew ?_ | refine Bel.drewN ?_ _ | refine Below.setCell ?_ (by first | exact Nat.le_refl _ | omega | (simp; done) | (simp; omega)) _)⟩
  · rw [h1] at HO
    have hb : (sc == 5) = false := by simpa using h3
    clear h3
    go_enter Try.func31, Try.ntmps31
    go_wp2_with fail
    go_at_call 44; refine (areFigures_c (some ⟨b, o, none⟩) c [(d, t)] (by simp) _ HA.out).mono ?_; rintro e w1 ⟨rfl, hb1⟩; obtain ⟨hc1, hf1, hz1⟩ := bel hb1; (try simp only [World.size_drew, World.cell?_drew, World.frozen?_drew] at hc1 hf1 hz1); (try simp only [World.heap_drewN, World.cell?_drewN, World.frozen?_drewN] at hc1 hf1 hz1); (try have hl1 : w.heap.size < w1.heap.size := by (have hq := hb1.size; (try simp at hq); omega)); (try have hm1 : w.heap.size + 1 < w1.heap.size := by (have hq := hb1.size; (try simp at hq); omega)); (try have hn1 : w.heap.size + 1 + 1 < w1.heap.size := by (have hq := hb1.size; (try simp at hq); omega)); (try have hp1 : b < w1.heap.size := by (have hq := hb1.size; (try simp at hq); omega)); (try have ho1 : b' < w1.heap.size := by (have hq := hb1.size; (try simp at hq); omega))
    rw [HO.out]
    go_wp2_with (first | (go_at_call 45; refine (IsScale_I _ _).mono ?_; rintro e w' ⟨rfl, rfl⟩))
    go_loopw [6, 15] (fun _ i wr => ∃ k : Nat, k ≤ 1 ∧ i = .int .i64 k ∧ Below w.heap.size w wr) (fun _ i _ => 1 - (intOf i).toNat)
    case atStart => exact ⟨0, Nat.zero_le _, rfl, by repeat (with_reducible first | exact Below.refl _ _ | assumption | refine Bel.alloc ?_ _ | refine Bel.step (by assumption) ?_ | refine Below.drew ?_ | refine Bel.drewN ?_ _ | refine Below.setCell ?_ (by first | exact Nat.le_refl _ | omega | (simp; done) | (simp; omega)) _)⟩
    case round =>
      obtain ⟨k, hk, rfl, hbel⟩ := hrel
      have c0 : wr.cell? ⟨b, o, none⟩ = some (.int .i64 d) := (hbel.cell (p := ⟨b, o, none⟩) hbb).trans ya0
      have c1 : wr.cell? ⟨b, o + 1, none⟩ = some (.int .i64 t) := (hbel.cell (p := ⟨b, o + 1, none⟩) hbb).trans ya1
      clear hb1 hc1 hf1 hz1 ya0 ya1
      rcases (show k = 0 ∨ k = 1 by omega) with rfl | rfl
      · go_wp2
        go_roundw
        case rel => exact ⟨1, by omega, by go_num, by repeat (with_reducible first | exact Below.refl _ _ | assumption | refine Bel.alloc ?_ _ | refine Bel.step (by assumption) ?_ | refine Below.drew ?_ | refine Bel.drewN ?_ _ | refine Below.setCell ?_ (by first | exact Nat.le_refl _ | omega | (simp; done) | (simp; omega)) _)⟩
        case measure => simp [intOf]
      · go_wp2
        go_ret
        exact ⟨by rw [HV.out]; rfl, by repeat (with_reducible first | exact Below.refl _ _ | assumption | refine Bel.alloc ?_ _ | refine Bel.step (by assumption) ?_ | refine Below.drew ?_ | refine Bel.drewN ?_ _ | refine Below.setCell ?_ (by first | exact Nat.le_refl _ | omega | (simp; done) | (simp; omega)) _)⟩
/-- The code of a scale, a length and a figure. -/
def spqW (sc n d t : Int) : Int := if shC sc d t = 0 then (if inB n 1 100000 = true then 0 else 2) else shC sc d t
theorem checkPlace_c (sc n d t : Int) (A : Option Addr) (c : Nat) (w : World) (hA : Prs w A [(d, t)]) :
    Calls Try.prog 17 #[.int .i64 sc, .int .i64 n, .slice A 1 c] w fun e w' => e = .returned (.int .i64 (spqW sc n d t)) ∧ Below w.heap.size w w' := by
  by_cases h1 : shC sc d t = 0
  · cases h2 : inB n 1 100000 with
    | true =>
      have HV := Lib.hid (show spqW sc n d t = 0 by simp [spqW, h1, h2])
      have HS := Lib.hid h1
      clear h1
      go_enter Try.func17, Try.ntmps17
      go_wp2_with fail
      go_at_call 31; refine (checkShown_c sc d t A c _ hA).mono ?_; rintro e w1 ⟨rfl, hb1⟩; obtain ⟨hc1, hf1, hz1⟩ := bel hb1; (try simp only [World.size_drew, World.cell?_drew, World.frozen?_drew] at hc1 hf1 hz1); (try simp only [World.heap_drewN, World.cell?_drewN, World.frozen?_drewN] at hc1 hf1 hz1); (try have hl1 : w.heap.size < w1.heap.size := by (have hq := hb1.size; (try simp at hq); omega)); (try have hm1 : w.heap.size + 1 < w1.heap.size := by (have hq := hb1.size; (try simp at hq); omega)); (try have hn1 : w.heap.size + 1 + 1 < w1.heap.size := by (have hq := hb1.size; (try simp at hq); omega)); (try have hp1 : b < w1.heap.size := by (have hq := hb1.size; (try simp at hq); omega)); (try have ho1 : b' < w1.heap.size := by (have hq := hb1.size; (try simp at hq); omega))
      rw [HS.out]
      go_wp2_with (first | (go_at_call 32; refine (isLength_c _ _).mono ?_; rintro e w' ⟨rfl, rfl⟩))
      go_ret
      exact ⟨by rw [HV.out]; rfl, by repeat (with_reducible first | exact Below.refl _ _ | assumption | refine Bel.alloc ?_ _ | refine Bel.step (by assumption) ?_ | refine Below.drew ?_ | refine Bel.drewN ?_ _ | refine Below.setCell ?_ (by first | exact Nat.le_refl _ | omega | (simp; done) | (simp; omega)) _)⟩
    | false =>
      have HV := Lib.hid (show spqW sc n d t = 2 by simp [spqW, h1, h2])
      have HS := Lib.hid h1
      clear h1
      go_enter Try.func17, Try.ntmps17
      go_wp2_with fail
      go_at_call 31; refine (checkShown_c sc d t A c _ hA).mono ?_; rintro e w1 ⟨rfl, hb1⟩; obtain ⟨hc1, hf1, hz1⟩ := bel hb1; (try simp only [World.size_drew, World.cell?_drew, World.frozen?_drew] at hc1 hf1 hz1); (try simp only [World.heap_drewN, World.cell?_drewN, World.frozen?_drewN] at hc1 hf1 hz1); (try have hl1 : w.heap.size < w1.heap.size := by (have hq := hb1.size; (try simp at hq); omega)); (try have hm1 : w.heap.size + 1 < w1.heap.size := by (have hq := hb1.size; (try simp at hq); omega)); (try have hn1 : w.heap.size + 1 + 1 < w1.heap.size := by (have hq := hb1.size; (try simp at hq); omega)); (try have hp1 : b < w1.heap.size := by (have hq := hb1.size; (try simp at hq); omega)); (try have ho1 : b' < w1.heap.size := by (have hq := hb1.size; (try simp at hq); omega))
      rw [HS.out]
      go_wp2_with (first | (go_at_call 32; refine (isLength_c _ _).mono ?_; rintro e w' ⟨rfl, rfl⟩))
      go_ret
      exact ⟨by rw [HV.out]; rfl, by repeat (with_reducible first | exact Below.refl _ _ | assumption | refine Bel.alloc ?_ _ | refine Bel.step (by assumption) ?_ | refine Below.drew ?_ | refine Bel.drewN ?_ _ | refine Below.setCell ?_ (by first | exact Nat.le_refl _ | omega | (simp; done) | (simp; omega)) _)⟩
  · have HV := Lib.hid (show spqW sc n d t = shC sc d t by simp [spqW, h1])
    have hb : (shC sc d t != 0) = true := by simpa using h1
    clear h1
    go_enter Try.func17, Try.ntmps17
    go_wp2_with fail
    go_at_call 31; refine (checkShown_c sc d t A c _ hA).mono ?_; rintro e w1 ⟨rfl, hb1⟩; obtain ⟨hc1, hf1, hz1⟩ := bel hb1; (try simp only [World.size_drew, World.cell?_drew, World.frozen?_drew] at hc1 hf1 hz1); (try simp only [World.heap_drewN, World.cell?_drewN, World.frozen?_drewN] at hc1 hf1 hz1); (try have hl1 : w.heap.size < w1.heap.size := by (have hq := hb1.size; (try simp at hq); omega)); (try have hm1 : w.heap.size + 1 < w1.heap.size := by (have hq := hb1.size; (try simp at hq); omega)); (try have hn1 : w.heap.size + 1 + 1 < w1.heap.size := by (have hq := hb1.size; (try simp at hq); omega)); (try have hp1 : b < w1.heap.size := by (have hq := hb1.size; (try simp at hq); omega)); (try have ho1 : b' < w1.heap.size := by (have hq := hb1.size; (try simp at hq); omega))
    go_wp2
    go_ret
    exact ⟨by rw [HV.out]; rfl, by repeat (with_reducible first | exact Below.refl _ _ | assumption | refine Bel.alloc ?_ _ | refine Bel.step (by assumption) ?_ | refine Below.drew ?_ | refine Bel.drewN ?_ _ | refine Below.setCell ?_ (by first | exact Nat.le_refl _ | omega | (simp; done) | (simp; omega)) _)⟩
theorem spqW_0 {sc n d t : Int} (h : spqW sc n d t = 0) : okF d t = true ∧ 0 ≤ sc ∧ sc ≤ 5 ∧ 1 ≤ n ∧ n ≤ 100000 := by
  unfold spqW at h
  by_cases h1 : shC sc d t = 0
  · rw [if_pos h1] at h
    by_cases h2 : inB n 1 100000 = true
    · unfold shC at h1
      by_cases h3 : okF d t = true
      · rw [if_pos h3] at h1
        by_cases h4 : inB sc 0 5 = true
        · have a := inB_iff.1 h2
          have b := inB_iff.1 h4
          exact ⟨h3, b.1, b.2, a.1, a.2⟩
        · rw [if_neg h4] at h1; cases h1
      · rw [if_neg h3] at h1; cases h1
    · rw [if_neg h2] at h; cases h
  · rw [if_neg h1] at h; exact absurd h h1
/-- The place of a figure, and the code. -/
def pfL (sc n d t : Int) : Int := if spqW sc n d t = 0 then paL sc d t n else 0
def pfH (sc n d t : Int) : Int := if spqW sc n d t = 0 then paH sc d t n else 0
theorem prs_one (w : World) (T : TypeId) (a b : Int) : Prs (w.alloc (.cells #[.int .i64 a, .int .i64 b] T)) (some ⟨w.heap.size, 0, none⟩) [(a, b)] := by
  intro _
  refine ⟨w.heap.size, 0, rfl, by simp [go_sem], fun i hi => ?_⟩
  have : i = 0 := by simp at hi; omega
  subst this
  constructor <;> simp [go_sem]
set_option maxHeartbeats 1000000 in
theorem PlaceOf_S (sc n d t : Int) (w : World) :
    Calls Try.prog 11 #[.int .i64 sc, .agg #[.int .i64 d, .int .i64 t], .int .i64 n] w fun e w' => e = .returned (.tuple #[.agg #[.int .i64 (pfL sc n d t), .int .i64 (pfH sc n d t)], .int .i64 (spqW sc n d t)]) ∧ Below w.heap.size w w' := by
  by_cases h0 : spqW sc n d t = 0
  · obtain ⟨k1, k2, k3, k4, k5⟩ := spqW_0 h0
    obtain ⟨d1, d2, _, _⟩ := okF_iff k1
    have h1 : shC sc d t = 0 := by
      by_cases h1 : shC sc d t = 0
      · exact h1
      · have := h0; rw [spqW, if_neg h1] at this; exact absurd this h1
    have h2 : inB n 1 100000 = true := inB_iff.2 ⟨k4, k5⟩
    have HV := Lib.hid (show pfL sc n d t = paL sc d t n ∧ pfH sc n d t = paH sc d t n by simp [pfL, pfH, h0])
    have H0 := Lib.hid h0
    have HS := Lib.hid h1
    clear h0 h1
    go_enter Try.func11, Try.ntmps11
    go_wp2_with fail
    go_at_call 23; refine (l05Code_c sc d t _).mono ?_; rintro e w1 ⟨rfl, hb1⟩; obtain ⟨hc1, hf1, hz1⟩ := bel hb1; (try simp only [World.size_drew, World.cell?_drew, World.frozen?_drew] at hc1 hf1 hz1); (try simp only [World.heap_drewN, World.cell?_drewN, World.frozen?_drewN] at hc1 hf1 hz1); (try have hl1 : w.heap.size < w1.heap.size := by (have hq := hb1.size; (try simp at hq); omega)); (try have hm1 : w.heap.size + 1 < w1.heap.size := by (have hq := hb1.size; (try simp at hq); omega)); (try have hn1 : w.heap.size + 1 + 1 < w1.heap.size := by (have hq := hb1.size; (try simp at hq); omega)); (try have hp1 : b < w1.heap.size := by (have hq := hb1.size; (try simp at hq); omega)); (try have ho1 : b' < w1.heap.size := by (have hq := hb1.size; (try simp at hq); omega))
    rw [HS.out]
    go_wp2_with fail
    go_at_call 24; refine (l05Length_c n _).mono ?_; rintro e w' ⟨rfl, rfl⟩
    go_wp2_with fail
    go_at_call 26; refine (l05Position_c sc d t k1 _).mono ?_; rintro e w2 ⟨rfl, hb2⟩; obtain ⟨hc2, hf2, hz2⟩ := bel hb2
    go_wp2_with fail
    go_at_call 25; refine (l05Place_c sc d t n d1 d2 (by omega) k5 _).mono ?_; rintro e w3 ⟨rfl, hb3⟩; obtain ⟨hc3, hf3, hz3⟩ := bel hb3
    have q2 : w.heap.size + 1 < w2.heap.size := hz2 _ hm1
    have q3 : w.heap.size + 1 < w3.heap.size := hz3 _ q2
    go_wp2
    refine bodyPost_ret (v := .tuple #[.agg #[.int .i64 (paL sc d t n), .int .i64 (paH sc d t n)], .int .i64 0]) (by simp [results, Try.results11, go_sem, *]) rfl ⟨by rw [HV.out.1, HV.out.2, H0.out], by repeat (with_reducible first | exact Below.refl _ _ | assumption | refine Bel.alloc ?_ _ | refine Bel.step (by assumption) ?_ | refine Below.drew ?_ | refine Bel.drewN ?_ _ | refine Below.setCell ?_ (by first | exact Nat.le_refl _ | omega | (simp; done) | (simp; omega)) _)⟩
  · have HV := Lib.hid (show pfL sc n d t = 0 ∧ pfH sc n d t = 0 by simp [pfL, pfH, h0])
    by_cases h1 : shC sc d t = 0
    · have h2 : inB n 1 100000 = false := by
        cases h2 : inB n 1 100000 with
        | false => rfl
        | true => exact absurd (by simp [spqW, h1, h2]) h0
      have HW := Lib.hid (show spqW sc n d t = 2 by simp [spqW, h1, h2])
      have HS := Lib.hid h1
      clear h0 h1
      go_enter Try.func11, Try.ntmps11
      go_wp2_with fail
      go_at_call 23; refine (l05Code_c sc d t _).mono ?_; rintro e w1 ⟨rfl, hb1⟩; obtain ⟨hc1, hf1, hz1⟩ := bel hb1; (try simp only [World.size_drew, World.cell?_drew, World.frozen?_drew] at hc1 hf1 hz1); (try simp only [World.heap_drewN, World.cell?_drewN, World.frozen?_drewN] at hc1 hf1 hz1); (try have hl1 : w.heap.size < w1.heap.size := by (have hq := hb1.size; (try simp at hq); omega)); (try have hm1 : w.heap.size + 1 < w1.heap.size := by (have hq := hb1.size; (try simp at hq); omega)); (try have hn1 : w.heap.size + 1 + 1 < w1.heap.size := by (have hq := hb1.size; (try simp at hq); omega)); (try have hp1 : b < w1.heap.size := by (have hq := hb1.size; (try simp at hq); omega)); (try have ho1 : b' < w1.heap.size := by (have hq := hb1.size; (try simp at hq); omega))
      rw [HS.out]
      go_wp2_with (first | (go_at_call 24; refine (l05Length_c _ _).mono ?_; rintro e w' ⟨rfl, rfl⟩))
      refine bodyPost_ret (v := .tuple #[.agg #[.int .i64 0, .int .i64 0], .int .i64 2]) (by simp [results, Try.results11, go_sem, *]) rfl ⟨by rw [HV.out.1, HV.out.2, HW.out], by repeat (with_reducible first | exact Below.refl _ _ | assumption | refine Bel.alloc ?_ _ | refine Bel.step (by assumption) ?_ | refine Below.drew ?_ | refine Bel.drewN ?_ _ | refine Below.setCell ?_ (by first | exact Nat.le_refl _ | omega | (simp; done) | (simp; omega)) _)⟩
    · have HW := Lib.hid (show spqW sc n d t = shC sc d t by simp [spqW, h1])
      have hb : (shC sc d t == 0) = false := by simpa using h1
      have hb' : (shC sc d t != 0) = true := by simpa using h1
      clear h0 h1
      go_enter Try.func11, Try.ntmps11
      go_wp2_with fail
      go_at_call 23; refine (l05Code_c sc d t _).mono ?_; rintro e w1 ⟨rfl, hb1⟩; obtain ⟨hc1, hf1, hz1⟩ := bel hb1; (try simp only [World.size_drew, World.cell?_drew, World.frozen?_drew] at hc1 hf1 hz1); (try simp only [World.heap_drewN, World.cell?_drewN, World.frozen?_drewN] at hc1 hf1 hz1); (try have hl1 : w.heap.size < w1.heap.size := by (have hq := hb1.size; (try simp at hq); omega)); (try have hm1 : w.heap.size + 1 < w1.heap.size := by (have hq := hb1.size; (try simp at hq); omega)); (try have hn1 : w.heap.size + 1 + 1 < w1.heap.size := by (have hq := hb1.size; (try simp at hq); omega)); (try have hp1 : b < w1.heap.size := by (have hq := hb1.size; (try simp at hq); omega)); (try have ho1 : b' < w1.heap.size := by (have hq := hb1.size; (try simp at hq); omega))
      go_wp2
      refine bodyPost_ret (v := .tuple #[.agg #[.int .i64 0, .int .i64 0], .int .i64 (shC sc d t)]) (by simp [results, Try.results11, go_sem, *]) rfl ⟨by rw [HV.out.1, HV.out.2, HW.out], by repeat (with_reducible first | exact Below.refl _ _ | assumption | refine Bel.alloc ?_ _ | refine Bel.step (by assumption) ?_ | refine Below.drew ?_ | refine Bel.drewN ?_ _ | refine Below.setCell ?_ (by first | exact Nat.le_refl _ | omega | (simp; done) | (simp; omega)) _)⟩
/-- Where a worn rule shows a figure. -/
def wfA (s z sc n d t : Int) : Int := Sn s z (Fl (paL sc d t n + paH sc d t n) 2)
def wfC (s z sc n d t : Int) : Int := if (isModel s z && okF d t) = true then (if spqW sc n d t = 0 then (if inB (wfA s z sc n d t) 0 n = true then 0 else 2) else spqW sc n d t) else 1
def wfD (s z sc n d t : Int) : Int := if wfC s z sc n d t = 0 then nfD (brN sc n (wfA s z sc n d t) : Nat) else 0
def wfT (s z sc n d t : Int) : Int := if wfC s z sc n d t = 0 then nfT (brN sc n (wfA s z sc n d t) : Nat) else 0
def WfV (s z sc n d t a b c : Int) : Prop := wfC s z sc n d t = a ∧ wfD s z sc n d t = b ∧ wfT s z sc n d t = c
theorem wf_cases (s z sc n d t : Int) : (isModel s z = false ∧ Hid (WfV s z sc n d t 1 0 0)) ∨ (isModel s z = true ∧ okF d t = false ∧ Hid (WfV s z sc n d t 1 0 0 ∧ spqW sc n d t = 1)) ∨
    (isModel s z = true ∧ okF d t = true ∧ spqW sc n d t ≠ 0 ∧ Hid (WfV s z sc n d t (spqW sc n d t) 0 0)) ∨
    (isModel s z = true ∧ okF d t = true ∧ Hid (spqW sc n d t = 0) ∧ inB (wfA s z sc n d t) 0 n = false ∧ Hid (WfV s z sc n d t 2 0 0)) ∨
    (isModel s z = true ∧ okF d t = true ∧ Hid (spqW sc n d t = 0) ∧ inB (wfA s z sc n d t) 0 n = true ∧ Hid (WfV s z sc n d t 0 (nfD (brN sc n (wfA s z sc n d t) : Nat)) (nfT (brN sc n (wfA s z sc n d t) : Nat)))) := by
  unfold Hid WfV
  cases h1 : isModel s z with
  | false => exact .inl ⟨rfl, by simp [wfD, wfT, wfC, h1]⟩
  | true =>
    cases h2 : okF d t with
    | false => exact .inr (.inl ⟨rfl, rfl, by simp [wfD, wfT, wfC, h1, h2], by simp [spqW, shC, h2]⟩)
    | true =>
      by_cases h3 : spqW sc n d t = 0
      · cases h4 : inB (wfA s z sc n d t) 0 n with
        | false => exact .inr (.inr (.inr (.inl ⟨rfl, rfl, h3, rfl, by simp [wfD, wfT, wfC, h1, h2, h3, h4]⟩)))
        | true => exact .inr (.inr (.inr (.inr ⟨rfl, rfl, h3, rfl, by simp [wfD, wfT, wfC, h1, h2, h3, h4]⟩)))
      · exact .inr (.inr (.inl ⟨rfl, rfl, h3, by simp [wfD, wfT, wfC, h1, h2, h3]⟩))
theorem wfA_bd {s z sc n d t : Int} (hm : isModel s z = true) (h : spqW sc n d t = 0) : (-500000 ≤ paL sc d t n ∧ paL sc d t n ≤ 500000) ∧ (-500000 ≤ paH sc d t n ∧ paH sc d t n ≤ 500000) ∧ -500000 ≤ Fl (paL sc d t n + paH sc d t n) 2 ∧ Fl (paL sc d t n + paH sc d t n) 2 ≤ 500000 := by
  obtain ⟨k1, _, _, k4, k5⟩ := spqW_0 h
  obtain ⟨d1, d2, _, _⟩ := okF_iff k1
  obtain ⟨_, _, a, b⟩ := pa_bd (sc := sc) (t := t) d1 d2 (show 0 ≤ n by omega) k5
  refine ⟨a, b, ?_⟩
  rw [Fl_pos _ _ (by omega)]; omega
set_option maxRecDepth 20000 in
set_option maxHeartbeats 4000000 in
theorem WornFigure_S (s z sc n d t : Int) (w : World) :
    Calls Try.prog 4 #[.agg #[.int .i64 s, .int .i64 z], .int .i64 sc, .int .i64 n, .agg #[.int .i64 d, .int .i64 t]] w fun e w' => e = .returned (.tuple #[.agg #[.int .i64 (wfD s z sc n d t), .int .i64 (wfT s z sc n d t)], .int .i64 (wfC s z sc n d t)]) ∧ Below w.heap.size w w' := by
  rcases wf_cases s z sc n d t with ⟨h1, HV⟩ | ⟨h1, h2, HV⟩ | ⟨h1, h2, h3, HV⟩ | ⟨h1, h2, H3, h4, HV⟩ | ⟨h1, h2, H3, h4, HV⟩
  · go_enter Try.func4, Try.ntmps4
    go_wp2_with (first | (go_at_call 9; refine (isModel_S _ _ _).mono ?_; rintro e w1 ⟨rfl, hb1⟩; obtain ⟨hc1, hf1, hz1⟩ := bel hb1; (try simp only [World.size_drew, World.cell?_drew, World.frozen?_drew] at hc1 hf1 hz1); (try simp only [World.heap_drewN, World.cell?_drewN, World.frozen?_drewN] at hc1 hf1 hz1); (try have hl1 : w.heap.size < w1.heap.size := by (have hq := hb1.size; (try simp at hq); omega)); (try have hm1 : w.heap.size + 1 < w1.heap.size := by (have hq := hb1.size; (try simp at hq); omega)); (try have hn1 : w.heap.size + 1 + 1 < w1.heap.size := by (have hq := hb1.size; (try simp at hq); omega)); (try have hp1 : b < w1.heap.size := by (have hq := hb1.size; (try simp at hq); omega)); (try have ho1 : b' < w1.heap.size := by (have hq := hb1.size; (try simp at hq); omega))))
    refine bodyPost_ret (v := .tuple #[.agg #[.int .i64 0, .int .i64 0], .int .i64 1]) (by simp [results, Try.results4, go_sem, *]) rfl ⟨by rw [HV.out.1, HV.out.2.1, HV.out.2.2], by repeat (with_reducible first | exact Below.refl _ _ | assumption | refine Bel.alloc ?_ _ | refine Bel.step (by assumption) ?_ | refine Below.drew ?_ | refine Bel.drewN ?_ _ | refine Below.setCell ?_ (by first | exact Nat.le_refl _ | omega | (simp; done) | (simp; omega)) _)⟩
  · go_enter Try.func4, Try.ntmps4
    go_wp2_with (first | (go_at_call 9; refine (isModel_S _ _ _).mono ?_; rintro e w1 ⟨rfl, hb1⟩; obtain ⟨hc1, hf1, hz1⟩ := bel hb1; (try simp only [World.size_drew, World.cell?_drew, World.frozen?_drew] at hc1 hf1 hz1); (try simp only [World.heap_drewN, World.cell?_drewN, World.frozen?_drewN] at hc1 hf1 hz1); (try have hl1 : w.heap.size < w1.heap.size := by (have hq := hb1.size; (try simp at hq); omega)); (try have hm1 : w.heap.size + 1 < w1.heap.size := by (have hq := hb1.size; (try simp at hq); omega)); (try have hn1 : w.heap.size + 1 + 1 < w1.heap.size := by (have hq := hb1.size; (try simp at hq); omega)); (try have hp1 : b < w1.heap.size := by (have hq := hb1.size; (try simp at hq); omega)); (try have ho1 : b' < w1.heap.size := by (have hq := hb1.size; (try simp at hq); omega))) | (go_at_call 10; refine (IsFigure_S _ _ _).mono ?_; rintro e w1 ⟨rfl, hb1⟩; obtain ⟨hc1, hf1, hz1⟩ := bel hb1; (try simp only [World.size_drew, World.cell?_drew, World.frozen?_drew] at hc1 hf1 hz1); (try simp only [World.heap_drewN, World.cell?_drewN, World.frozen?_drewN] at hc1 hf1 hz1); (try have hl1 : w.heap.size < w1.heap.size := by (have hq := hb1.size; (try simp at hq); omega)); (try have hm1 : w.heap.size + 1 < w1.heap.size := by (have hq := hb1.size; (try simp at hq); omega)); (try have hn1 : w.heap.size + 1 + 1 < w1.heap.size := by (have hq := hb1.size; (try simp at hq); omega)); (try have hp1 : b < w1.heap.size := by (have hq := hb1.size; (try simp at hq); omega)); (try have ho1 : b' < w1.heap.size := by (have hq := hb1.size; (try simp at hq); omega))))
    refine bodyPost_ret (v := .tuple #[.agg #[.int .i64 0, .int .i64 0], .int .i64 1]) (by simp [results, Try.results4, go_sem, *]) rfl ⟨by rw [HV.out.1.1, HV.out.1.2.1, HV.out.1.2.2], by repeat (with_reducible first | exact Below.refl _ _ | assumption | refine Bel.alloc ?_ _ | refine Bel.step (by assumption) ?_ | refine Below.drew ?_ | refine Bel.drewN ?_ _ | refine Below.setCell ?_ (by first | exact Nat.le_refl _ | omega | (simp; done) | (simp; omega)) _)⟩
  · have hb : (spqW sc n d t != 0) = true := by simpa using h3
    clear h3
    go_enter Try.func4, Try.ntmps4
    go_wp2_with fail
    go_at_call 9; refine (isModel_S s z _).mono ?_; rintro e w1 ⟨rfl, hb1⟩; obtain ⟨hc1, hf1, hz1⟩ := bel hb1; (try simp only [World.size_drew, World.cell?_drew, World.frozen?_drew] at hc1 hf1 hz1); (try simp only [World.heap_drewN, World.cell?_drewN, World.frozen?_drewN] at hc1 hf1 hz1); (try have hl1 : w.heap.size < w1.heap.size := by (have hq := hb1.size; (try simp at hq); omega)); (try have hm1 : w.heap.size + 1 < w1.heap.size := by (have hq := hb1.size; (try simp at hq); omega)); (try have hn1 : w.heap.size + 1 + 1 < w1.heap.size := by (have hq := hb1.size; (try simp at hq); omega)); (try have hp1 : b < w1.heap.size := by (have hq := hb1.size; (try simp at hq); omega)); (try have ho1 : b' < w1.heap.size := by (have hq := hb1.size; (try simp at hq); omega))
    go_wp2_with fail
    go_at_call 10; refine (IsFigure_S d t _).mono ?_; rintro e w2 ⟨rfl, hb2⟩; obtain ⟨hc2, hf2, hz2⟩ := bel hb2; (try simp only [World.size_drew, World.cell?_drew, World.frozen?_drew] at hc2 hf2 hz2); (try simp only [World.heap_drewN, World.cell?_drewN, World.frozen?_drewN] at hc2 hf2 hz2); (try have hl2 : w.heap.size < w2.heap.size := by (have hq := hb2.size; (try simp at hq); omega)); (try have hm2 : w.heap.size + 1 < w2.heap.size := by (have hq := hb2.size; (try simp at hq); omega)); (try have hn2 : w.heap.size + 1 + 1 < w2.heap.size := by (have hq := hb2.size; (try simp at hq); omega)); (try have hp2 : b < w2.heap.size := by (have hq := hb2.size; (try simp at hq); omega)); (try have ho2 : b' < w2.heap.size := by (have hq := hb2.size; (try simp at hq); omega))
    rw [h2]
    go_wp2_with fail
    go_at_call 11; refine (PlaceOf_S sc n d t _).mono ?_; rintro e w2 ⟨rfl, hb2⟩; obtain ⟨hc2, hf2, hz2⟩ := bel hb2; (try simp only [World.size_drew, World.cell?_drew, World.frozen?_drew] at hc2 hf2 hz2); (try simp only [World.heap_drewN, World.cell?_drewN, World.frozen?_drewN] at hc2 hf2 hz2); (try have hl2 : w.heap.size < w2.heap.size := by (have hq := hb2.size; (try simp at hq); omega)); (try have hm2 : w.heap.size + 1 < w2.heap.size := by (have hq := hb2.size; (try simp at hq); omega)); (try have hn2 : w.heap.size + 1 + 1 < w2.heap.size := by (have hq := hb2.size; (try simp at hq); omega)); (try have hp2 : b < w2.heap.size := by (have hq := hb2.size; (try simp at hq); omega)); (try have ho2 : b' < w2.heap.size := by (have hq := hb2.size; (try simp at hq); omega))
    go_wp2
    refine bodyPost_ret (v := .tuple #[.agg #[.int .i64 0, .int .i64 0], .int .i64 (spqW sc n d t)]) (by simp [results, Try.results4, go_sem, *]) rfl ⟨by rw [HV.out.1, HV.out.2.1, HV.out.2.2], by repeat (with_reducible first | exact Below.refl _ _ | assumption | refine Bel.alloc ?_ _ | refine Bel.step (by assumption) ?_ | refine Below.drew ?_ | refine Bel.drewN ?_ _ | refine Below.setCell ?_ (by first | exact Nat.le_refl _ | omega | (simp; done) | (simp; omega)) _)⟩
  · obtain ⟨⟨a1, a2⟩, ⟨a3, a4⟩, a5, a6⟩ := wfA_bd h1 H3.out
    obtain ⟨m1, m2, m3, m4⟩ := isModel_iff h1
    obtain ⟨k1, k2, k3, k4, k5⟩ := spqW_0 H3.out
    have HAE := Lib.hid (show wfA s z sc n d t = Sn s z (Fl (paL sc d t n + paH sc d t n) 2) from rfl)
    have H4 := Lib.hid h4
    clear h4
    have HPF := Lib.hid (show pfL sc n d t = paL sc d t n ∧ pfH sc n d t = paH sc d t n by simp [pfL, pfH, H3.out])
    go_enter Try.func4, Try.ntmps4
    go_wp2_with fail
    go_at_call 9; refine (isModel_S s z _).mono ?_; rintro e w3 ⟨rfl, hb3⟩; obtain ⟨hc3, hf3, hz3⟩ := bel hb3; (try simp only [World.size_drew, World.cell?_drew, World.frozen?_drew] at hc3 hf3 hz3); (try simp only [World.heap_drewN, World.cell?_drewN, World.frozen?_drewN] at hc3 hf3 hz3); (try have hl3 : w.heap.size < w3.heap.size := by (have hq := hb3.size; (try simp at hq); omega)); (try have hm3 : w.heap.size + 1 < w3.heap.size := by (have hq := hb3.size; (try simp at hq); omega)); (try have hn3 : w.heap.size + 1 + 1 < w3.heap.size := by (have hq := hb3.size; (try simp at hq); omega)); (try have hp3 : b < w3.heap.size := by (have hq := hb3.size; (try simp at hq); omega)); (try have ho3 : b' < w3.heap.size := by (have hq := hb3.size; (try simp at hq); omega))
    go_wp2_with fail
    go_at_call 10; refine (IsFigure_S d t _).mono ?_; rintro e w4 ⟨rfl, hb4⟩; obtain ⟨hc4, hf4, hz4⟩ := bel hb4; (try simp only [World.size_drew, World.cell?_drew, World.frozen?_drew] at hc4 hf4 hz4); (try simp only [World.heap_drewN, World.cell?_drewN, World.frozen?_drewN] at hc4 hf4 hz4); (try have hl4 : w.heap.size < w4.heap.size := by (have hq := hb4.size; (try simp at hq); omega)); (try have hm4 : w.heap.size + 1 < w4.heap.size := by (have hq := hb4.size; (try simp at hq); omega)); (try have hn4 : w.heap.size + 1 + 1 < w4.heap.size := by (have hq := hb4.size; (try simp at hq); omega)); (try have hp4 : b < w4.heap.size := by (have hq := hb4.size; (try simp at hq); omega)); (try have ho4 : b' < w4.heap.size := by (have hq := hb4.size; (try simp at hq); omega))
    rw [h2]
    go_wp2_with fail
    go_at_call 11; refine (PlaceOf_S sc n d t _).mono ?_; rintro e w2 ⟨rfl, hb2⟩; obtain ⟨hc2, hf2, hz2⟩ := bel hb2; (try simp only [World.size_drew, World.cell?_drew, World.frozen?_drew] at hc2 hf2 hz2); (try simp only [World.heap_drewN, World.cell?_drewN, World.frozen?_drewN] at hc2 hf2 hz2); (try have hl2 : w.heap.size < w2.heap.size := by (have hq := hb2.size; (try simp at hq); omega)); (try have hm2 : w.heap.size + 1 < w2.heap.size := by (have hq := hb2.size; (try simp at hq); omega)); (try have hn2 : w.heap.size + 1 + 1 < w2.heap.size := by (have hq := hb2.size; (try simp at hq); omega)); (try have hp2 : b < w2.heap.size := by (have hq := hb2.size; (try simp at hq); omega)); (try have ho2 : b' < w2.heap.size := by (have hq := hb2.size; (try simp at hq); omega))
    rw [HPF.out.1, HPF.out.2, H3.out]
    clear HPF
    generalize paL sc d t n = x at *
    generalize paH sc d t n = y at *
    have e1 : IntKind.i64.wrap (x + y) = x + y := wr64 (by omega) (by omega)
    go_wp2
    go_region_held3 (fun w' => w'.cell? ⟨w.heap.size, 0, none⟩ = some (.int .i64 s) ∧ w'.cell? ⟨w.heap.size, 1, none⟩ = some (.int .i64 z) ∧ w'.cell? ⟨w2.heap.size, 0, none⟩ = some (.int .i64 x) ∧ w'.cell? ⟨w2.heap.size, 1, none⟩ = some (.int .i64 y)) (simp [go_sem, *])
        (first | (go_at_call 13; refine (l01Floor_c _ _ (by omega) (by omega) (by omega) (by omega) (by omega) _).mono ?_; rintro e w' ⟨rfl, rfl⟩) | (go_at_call 12; refine (seen_l01Nearest_c _ _ _ (by omega) (by omega) (by omega) (by omega) (by omega) (by omega) _).mono ?_; rintro e wx ⟨rfl, hbx⟩; obtain ⟨hcx, hfx, hzx⟩ := bel hbx; (try simp only [World.size_drew, World.cell?_drew, World.frozen?_drew] at hcx hfx hzx); (try simp only [World.heap_drewN, World.cell?_drewN, World.frozen?_drewN] at hcx hfx hzx); (try have hlx : w.heap.size < wx.heap.size := by (have hq := hbx.size; (try simp at hq); omega)); (try have hmx : w.heap.size + 1 < wx.heap.size := by (have hq := hbx.size; (try simp at hq); omega)); (try have hnx : w.heap.size + 1 + 1 < wx.heap.size := by (have hq := hbx.size; (try simp at hq); omega)); (try have hpx : b < wx.heap.size := by (have hq := hbx.size; (try simp at hq); omega)); (try have hox : b' < wx.heap.size := by (have hq := hbx.size; (try simp at hq); omega))))
    all_goals
      rw [← HAE.out]
      have h4 := H4.out
      go_wp2_with (first | (go_at_call 14; refine (l01In_c _ _ _ _).mono ?_; rintro e w' ⟨rfl, rfl⟩))
      refine bodyPost_ret (v := .tuple #[.agg #[.int .i64 0, .int .i64 0], .int .i64 2]) (by simp [results, Try.results4, go_sem, *]) rfl ⟨by rw [HV.out.1, HV.out.2.1, HV.out.2.2], by repeat (with_reducible first | exact Below.refl _ _ | assumption | refine Bel.alloc ?_ _ | refine Bel.step (by assumption) ?_ | refine Below.drew ?_ | refine Bel.drewN ?_ _ | refine Below.setCell ?_ (by first | exact Nat.le_refl _ | omega | (simp; done) | (simp; omega)) _)⟩
  · obtain ⟨⟨a1, a2⟩, ⟨a3, a4⟩, a5, a6⟩ := wfA_bd h1 H3.out
    obtain ⟨m1, m2, m3, m4⟩ := isModel_iff h1
    obtain ⟨k1, k2, k3, k4, k5⟩ := spqW_0 H3.out
    have HAE := Lib.hid (show wfA s z sc n d t = Sn s z (Fl (paL sc d t n + paH sc d t n) 2) from rfl)
    obtain ⟨v1, v2⟩ := inB_iff.1 h4
    have H4 := Lib.hid h4
    clear h4
    have HPF := Lib.hid (show pfL sc n d t = paL sc d t n ∧ pfH sc n d t = paH sc d t n by simp [pfL, pfH, H3.out])
    go_enter Try.func4, Try.ntmps4
    go_wp2_with fail
    go_at_call 9; refine (isModel_S s z _).mono ?_; rintro e w5 ⟨rfl, hb5⟩; obtain ⟨hc5, hf5, hz5⟩ := bel hb5; (try simp only [World.size_drew, World.cell?_drew, World.frozen?_drew] at hc5 hf5 hz5); (try simp only [World.heap_drewN, World.cell?_drewN, World.frozen?_drewN] at hc5 hf5 hz5); (try have hl5 : w.heap.size < w5.heap.size := by (have hq := hb5.size; (try simp at hq); omega)); (try have hm5 : w.heap.size + 1 < w5.heap.size := by (have hq := hb5.size; (try simp at hq); omega)); (try have hn5 : w.heap.size + 1 + 1 < w5.heap.size := by (have hq := hb5.size; (try simp at hq); omega)); (try have hp5 : b < w5.heap.size := by (have hq := hb5.size; (try simp at hq); omega)); (try have ho5 : b' < w5.heap.size := by (have hq := hb5.size; (try simp at hq); omega))
    go_wp2_with fail
    go_at_call 10; refine (IsFigure_S d t _).mono ?_; rintro e w6 ⟨rfl, hb6⟩; obtain ⟨hc6, hf6, hz6⟩ := bel hb6; (try simp only [World.size_drew, World.cell?_drew, World.frozen?_drew] at hc6 hf6 hz6); (try simp only [World.heap_drewN, World.cell?_drewN, World.frozen?_drewN] at hc6 hf6 hz6); (try have hl6 : w.heap.size < w6.heap.size := by (have hq := hb6.size; (try simp at hq); omega)); (try have hm6 : w.heap.size + 1 < w6.heap.size := by (have hq := hb6.size; (try simp at hq); omega)); (try have hn6 : w.heap.size + 1 + 1 < w6.heap.size := by (have hq := hb6.size; (try simp at hq); omega)); (try have hp6 : b < w6.heap.size := by (have hq := hb6.size; (try simp at hq); omega)); (try have ho6 : b' < w6.heap.size := by (have hq := hb6.size; (try simp at hq); omega))
    rw [h2]
    go_wp2_with fail
    go_at_call 11; refine (PlaceOf_S sc n d t _).mono ?_; rintro e w2 ⟨rfl, hb2⟩; obtain ⟨hc2, hf2, hz2⟩ := bel hb2; (try simp only [World.size_drew, World.cell?_drew, World.frozen?_drew] at hc2 hf2 hz2); (try simp only [World.heap_drewN, World.cell?_drewN, World.frozen?_drewN] at hc2 hf2 hz2); (try have hl2 : w.heap.size < w2.heap.size := by (have hq := hb2.size; (try simp at hq); omega)); (try have hm2 : w.heap.size + 1 < w2.heap.size := by (have hq := hb2.size; (try simp at hq); omega)); (try have hn2 : w.heap.size + 1 + 1 < w2.heap.size := by (have hq := hb2.size; (try simp at hq); omega)); (try have hp2 : b < w2.heap.size := by (have hq := hb2.size; (try simp at hq); omega)); (try have ho2 : b' < w2.heap.size := by (have hq := hb2.size; (try simp at hq); omega))
    rw [HPF.out.1, HPF.out.2, H3.out]
    clear HPF
    generalize paL sc d t n = x at *
    generalize paH sc d t n = y at *
    have e1 : IntKind.i64.wrap (x + y) = x + y := wr64 (by omega) (by omega)
    go_wp2
    go_region_held3 (fun w' => w'.cell? ⟨w.heap.size, 0, none⟩ = some (.int .i64 s) ∧ w'.cell? ⟨w.heap.size, 1, none⟩ = some (.int .i64 z) ∧ w'.cell? ⟨w2.heap.size, 0, none⟩ = some (.int .i64 x) ∧ w'.cell? ⟨w2.heap.size, 1, none⟩ = some (.int .i64 y)) (simp [go_sem, *])
        (first | (go_at_call 13; refine (l01Floor_c _ _ (by omega) (by omega) (by omega) (by omega) (by omega) _).mono ?_; rintro e w' ⟨rfl, rfl⟩) | (go_at_call 12; refine (seen_l01Nearest_c _ _ _ (by omega) (by omega) (by omega) (by omega) (by omega) (by omega) _).mono ?_; rintro e wx ⟨rfl, hbx⟩; obtain ⟨hcx, hfx, hzx⟩ := bel hbx; (try simp only [World.size_drew, World.cell?_drew, World.frozen?_drew] at hcx hfx hzx); (try simp only [World.heap_drewN, World.cell?_drewN, World.frozen?_drewN] at hcx hfx hzx); (try have hlx : w.heap.size < wx.heap.size := by (have hq := hbx.size; (try simp at hq); omega)); (try have hmx : w.heap.size + 1 < wx.heap.size := by (have hq := hbx.size; (try simp at hq); omega)); (try have hnx : w.heap.size + 1 + 1 < wx.heap.size := by (have hq := hbx.size; (try simp at hq); omega)); (try have hpx : b < wx.heap.size := by (have hq := hbx.size; (try simp at hq); omega)); (try have hox : b' < wx.heap.size := by (have hq := hbx.size; (try simp at hq); omega))))
    all_goals
      rw [← HAE.out]
      have h4 := H4.out
      go_wp2_with (first | (go_at_call 14; refine (l01In_c _ _ _ _).mono ?_; rintro e w' ⟨rfl, rfl⟩))
      go_wp2_with fail
      go_at_call 15; refine (l06Best_c sc n (wfA s z sc n d t) (by omega) k5 (by omega) (by omega) _).mono ?_; rintro e w7 ⟨rfl, hb7⟩; obtain ⟨hc7, hf7, hz7⟩ := bel hb7; (try simp only [World.size_drew, World.cell?_drew, World.frozen?_drew] at hc7 hf7 hz7); (try simp only [World.heap_drewN, World.cell?_drewN, World.frozen?_drewN] at hc7 hf7 hz7); (try have hl7 : w.heap.size < w7.heap.size := by (have hq := hb7.size; (try simp at hq); omega)); (try have hm7 : w.heap.size + 1 < w7.heap.size := by (have hq := hb7.size; (try simp at hq); omega)); (try have hn7 : w.heap.size + 1 + 1 < w7.heap.size := by (have hq := hb7.size; (try simp at hq); omega)); (try have hp7 : b < w7.heap.size := by (have hq := hb7.size; (try simp at hq); omega)); (try have ho7 : b' < w7.heap.size := by (have hq := hb7.size; (try simp at hq); omega))
      go_wp2
      refine bodyPost_ret (v := .tuple #[.agg #[.int .i64 (nfD (brN sc n (wfA s z sc n d t) : Nat)), .int .i64 (nfT (brN sc n (wfA s z sc n d t) : Nat))], .int .i64 0]) (by simp [results, Try.results4, go_sem, *]) rfl ⟨by rw [HV.out.1, HV.out.2.1, HV.out.2.2], by repeat (with_reducible first | exact Below.refl _ _ | assumption | refine Bel.alloc ?_ _ | refine Bel.step (by assumption) ?_ | refine Below.drew ?_ | refine Bel.drewN ?_ _ | refine Below.setCell ?_ (by first | exact Nat.le_refl _ | omega | (simp; done) | (simp; omega)) _)⟩
set_option maxRecDepth 20000 in
set_option maxHeartbeats 4000000 in
theorem WornFigure_I (s z sc n d t : Int) (w : World) :
    Calls Try.prog 7 #[.agg #[.int .i64 s, .int .i64 z], .int .i64 sc, .int .i64 n, .agg #[.int .i64 d, .int .i64 t]] w fun e w' => e = .returned (.tuple #[.agg #[.int .i64 (wfD s z sc n d t), .int .i64 (wfT s z sc n d t)], .int .i64 (wfC s z sc n d t)]) ∧ Below w.heap.size w w' := by
  rcases wf_cases s z sc n d t with ⟨h1, HV⟩ | ⟨h1, h2, HV⟩ | ⟨h1, h2, h3, HV⟩ | ⟨h1, h2, H3, h4, HV⟩ | ⟨h1, h2, H3, h4, HV⟩
  · go_enter Try.func7, Try.ntmps7
    go_wp2_with (first | (go_at_call 16; refine (isModel_I _ _ _).mono ?_; rintro e w1 ⟨rfl, hb1⟩; obtain ⟨hc1, hf1, hz1⟩ := bel hb1; (try simp only [World.size_drew, World.cell?_drew, World.frozen?_drew] at hc1 hf1 hz1); (try simp only [World.heap_drewN, World.cell?_drewN, World.frozen?_drewN] at hc1 hf1 hz1); (try have hl1 : w.heap.size < w1.heap.size := by (have hq := hb1.size; (try simp at hq); omega)); (try have hm1 : w.heap.size + 1 < w1.heap.size := by (have hq := hb1.size; (try simp at hq); omega)); (try have hn1 : w.heap.size + 1 + 1 < w1.heap.size := by (have hq := hb1.size; (try simp at hq); omega)); (try have hp1 : b < w1.heap.size := by (have hq := hb1.size; (try simp at hq); omega)); (try have ho1 : b' < w1.heap.size := by (have hq := hb1.size; (try simp at hq); omega))))
    refine bodyPost_ret (v := .tuple #[.agg #[.int .i64 0, .int .i64 0], .int .i64 1]) (by simp [results, Try.results7, go_sem, *]) rfl ⟨by rw [HV.out.1, HV.out.2.1, HV.out.2.2], by repeat (with_reducible first | exact Below.refl _ _ | assumption | refine Bel.alloc ?_ _ | refine Bel.step (by assumption) ?_ | refine Below.drew ?_ | refine Bel.drewN ?_ _ | refine Below.setCell ?_ (by first | exact Nat.le_refl _ | omega | (simp; done) | (simp; omega)) _)⟩
  · go_enter Try.func7, Try.ntmps7
    go_wp2_with fail
    go_at_call 16; refine (isModel_I s z _).mono ?_; rintro e w1 ⟨rfl, hb1⟩; obtain ⟨hc1, hf1, hz1⟩ := bel hb1; (try simp only [World.size_drew, World.cell?_drew, World.frozen?_drew] at hc1 hf1 hz1); (try simp only [World.heap_drewN, World.cell?_drewN, World.frozen?_drewN] at hc1 hf1 hz1); (try have hl1 : w.heap.size < w1.heap.size := by (have hq := hb1.size; (try simp at hq); omega)); (try have hm1 : w.heap.size + 1 < w1.heap.size := by (have hq := hb1.size; (try simp at hq); omega)); (try have hn1 : w.heap.size + 1 + 1 < w1.heap.size := by (have hq := hb1.size; (try simp at hq); omega)); (try have hp1 : b < w1.heap.size := by (have hq := hb1.size; (try simp at hq); omega)); (try have ho1 : b' < w1.heap.size := by (have hq := hb1.size; (try simp at hq); omega))
    go_wp2_with fail
    go_at_call 17; refine (checkPlace_c sc n d t _ 1 _ (prs_one _ _ _ _)).mono ?_; rintro e w2 ⟨rfl, hb2⟩; obtain ⟨hc2, hf2, hz2⟩ := bel hb2; (try simp only [World.size_drew, World.cell?_drew, World.frozen?_drew] at hc2 hf2 hz2); (try simp only [World.heap_drewN, World.cell?_drewN, World.frozen?_drewN] at hc2 hf2 hz2); (try have hl2 : w.heap.size < w2.heap.size := by (have hq := hb2.size; (try simp at hq); omega)); (try have hm2 : w.heap.size + 1 < w2.heap.size := by (have hq := hb2.size; (try simp at hq); omega)); (try have hn2 : w.heap.size + 1 + 1 < w2.heap.size := by (have hq := hb2.size; (try simp at hq); omega)); (try have hp2 : b < w2.heap.size := by (have hq := hb2.size; (try simp at hq); omega)); (try have ho2 : b' < w2.heap.size := by (have hq := hb2.size; (try simp at hq); omega))
    rw [HV.out.2]
    go_wp2
    refine bodyPost_ret (v := .tuple #[.agg #[.int .i64 0, .int .i64 0], .int .i64 1]) (by simp [results, Try.results7, go_sem, *]) rfl ⟨by rw [HV.out.1.1, HV.out.1.2.1, HV.out.1.2.2], by repeat (with_reducible first | exact Below.refl _ _ | assumption | refine Bel.alloc ?_ _ | refine Bel.step (by assumption) ?_ | refine Below.drew ?_ | refine Bel.drewN ?_ _ | refine Below.setCell ?_ (by first | exact Nat.le_refl _ | omega | (simp; done) | (simp; omega)) _)⟩
  · have hb : (spqW sc n d t != 0) = true := by simpa using h3
    clear h3
    go_enter Try.func7, Try.ntmps7
    go_wp2_with fail
    go_at_call 16; refine (isModel_I s z _).mono ?_; rintro e w2 ⟨rfl, hb2⟩; obtain ⟨hc2, hf2, hz2⟩ := bel hb2; (try simp only [World.size_drew, World.cell?_drew, World.frozen?_drew] at hc2 hf2 hz2); (try simp only [World.heap_drewN, World.cell?_drewN, World.frozen?_drewN] at hc2 hf2 hz2); (try have hl2 : w.heap.size < w2.heap.size := by (have hq := hb2.size; (try simp at hq); omega)); (try have hm2 : w.heap.size + 1 < w2.heap.size := by (have hq := hb2.size; (try simp at hq); omega)); (try have hn2 : w.heap.size + 1 + 1 < w2.heap.size := by (have hq := hb2.size; (try simp at hq); omega)); (try have hp2 : b < w2.heap.size := by (have hq := hb2.size; (try simp at hq); omega)); (try have ho2 : b' < w2.heap.size := by (have hq := hb2.size; (try simp at hq); omega))
    go_wp2_with fail
    go_at_call 17; refine (checkPlace_c sc n d t _ 1 _ (prs_one _ _ _ _)).mono ?_; rintro e w2 ⟨rfl, hb2⟩; obtain ⟨hc2, hf2, hz2⟩ := bel hb2; (try simp only [World.size_drew, World.cell?_drew, World.frozen?_drew] at hc2 hf2 hz2); (try simp only [World.heap_drewN, World.cell?_drewN, World.frozen?_drewN] at hc2 hf2 hz2); (try have hl2 : w.heap.size < w2.heap.size := by (have hq := hb2.size; (try simp at hq); omega)); (try have hm2 : w.heap.size + 1 < w2.heap.size := by (have hq := hb2.size; (try simp at hq); omega)); (try have hn2 : w.heap.size + 1 + 1 < w2.heap.size := by (have hq := hb2.size; (try simp at hq); omega)); (try have hp2 : b < w2.heap.size := by (have hq := hb2.size; (try simp at hq); omega)); (try have ho2 : b' < w2.heap.size := by (have hq := hb2.size; (try simp at hq); omega))
    go_wp2
    refine bodyPost_ret (v := .tuple #[.agg #[.int .i64 0, .int .i64 0], .int .i64 (spqW sc n d t)]) (by simp [results, Try.results7, go_sem, *]) rfl ⟨by rw [HV.out.1, HV.out.2.1, HV.out.2.2], by repeat (with_reducible first | exact Below.refl _ _ | assumption | refine Bel.alloc ?_ _ | refine Bel.step (by assumption) ?_ | refine Below.drew ?_ | refine Bel.drewN ?_ _ | refine Below.setCell ?_ (by first | exact Nat.le_refl _ | omega | (simp; done) | (simp; omega)) _)⟩
  · obtain ⟨⟨a1, a2⟩, ⟨a3, a4⟩, a5, a6⟩ := wfA_bd h1 H3.out
    obtain ⟨m1, m2, m3, m4⟩ := isModel_iff h1
    obtain ⟨k1, k2, k3, k4, k5⟩ := spqW_0 H3.out
    have HAE := Lib.hid (show wfA s z sc n d t = Sn s z (Fl (paL sc d t n + paH sc d t n) 2) from rfl)
    have H4 := Lib.hid h4
    clear h4
    go_enter Try.func7, Try.ntmps7
    go_wp2_with fail
    go_at_call 16; refine (isModel_I s z _).mono ?_; rintro e w3 ⟨rfl, hb3⟩; obtain ⟨hc3, hf3, hz3⟩ := bel hb3; (try simp only [World.size_drew, World.cell?_drew, World.frozen?_drew] at hc3 hf3 hz3); (try simp only [World.heap_drewN, World.cell?_drewN, World.frozen?_drewN] at hc3 hf3 hz3); (try have hl3 : w.heap.size < w3.heap.size := by (have hq := hb3.size; (try simp at hq); omega)); (try have hm3 : w.heap.size + 1 < w3.heap.size := by (have hq := hb3.size; (try simp at hq); omega)); (try have hn3 : w.heap.size + 1 + 1 < w3.heap.size := by (have hq := hb3.size; (try simp at hq); omega)); (try have hp3 : b < w3.heap.size := by (have hq := hb3.size; (try simp at hq); omega)); (try have ho3 : b' < w3.heap.size := by (have hq := hb3.size; (try simp at hq); omega))
    go_wp2_with fail
    go_at_call 17; refine (checkPlace_c sc n d t _ 1 _ (prs_one _ _ _ _)).mono ?_; rintro e w4 ⟨rfl, hb4⟩; obtain ⟨hc4, hf4, hz4⟩ := bel hb4; (try simp only [World.size_drew, World.cell?_drew, World.frozen?_drew] at hc4 hf4 hz4); (try simp only [World.heap_drewN, World.cell?_drewN, World.frozen?_drewN] at hc4 hf4 hz4); (try have hl4 : w.heap.size < w4.heap.size := by (have hq := hb4.size; (try simp at hq); omega)); (try have hm4 : w.heap.size + 1 < w4.heap.size := by (have hq := hb4.size; (try simp at hq); omega)); (try have hn4 : w.heap.size + 1 + 1 < w4.heap.size := by (have hq := hb4.size; (try simp at hq); omega)); (try have hp4 : b < w4.heap.size := by (have hq := hb4.size; (try simp at hq); omega)); (try have ho4 : b' < w4.heap.size := by (have hq := hb4.size; (try simp at hq); omega))
    rw [H3.out]
    go_wp2_with fail
    go_at_call 18; refine (place_c sc d t n k1 (by omega) k5 _).mono ?_; rintro e w2 ⟨rfl, hb2⟩; obtain ⟨hc2, hf2, hz2⟩ := bel hb2; (try simp only [World.size_drew, World.cell?_drew, World.frozen?_drew] at hc2 hf2 hz2); (try simp only [World.heap_drewN, World.cell?_drewN, World.frozen?_drewN] at hc2 hf2 hz2); (try have hl2 : w.heap.size < w2.heap.size := by (have hq := hb2.size; (try simp at hq); omega)); (try have hm2 : w.heap.size + 1 < w2.heap.size := by (have hq := hb2.size; (try simp at hq); omega)); (try have hn2 : w.heap.size + 1 + 1 < w2.heap.size := by (have hq := hb2.size; (try simp at hq); omega)); (try have hp2 : b < w2.heap.size := by (have hq := hb2.size; (try simp at hq); omega)); (try have ho2 : b' < w2.heap.size := by (have hq := hb2.size; (try simp at hq); omega))
    generalize paL sc d t n = x at *
    generalize paH sc d t n = y at *
    have e1 : IntKind.i64.wrap (x + y) = x + y := wr64 (by omega) (by omega)
    go_wp2
    go_region_held3 (fun w' => w'.cell? ⟨w.heap.size, 0, none⟩ = some (.int .i64 s) ∧ w'.cell? ⟨w.heap.size, 1, none⟩ = some (.int .i64 z) ∧ w'.cell? ⟨w2.heap.size, 0, none⟩ = some (.int .i64 x) ∧ w'.cell? ⟨w2.heap.size, 1, none⟩ = some (.int .i64 y)) (simp [go_sem, *])
        (first | (go_at_call 20; refine (down_c _ _ (by omega) (by omega) (by omega) (by omega) (by omega) _).mono ?_; rintro e w' ⟨rfl, rfl⟩) | (go_at_call 19; refine (seen_near_c _ _ _ (by omega) (by omega) (by omega) (by omega) (by omega) (by omega) _).mono ?_; rintro e wx ⟨rfl, hbx⟩; obtain ⟨hcx, hfx, hzx⟩ := bel hbx; (try simp only [World.size_drew, World.cell?_drew, World.frozen?_drew] at hcx hfx hzx); (try simp only [World.heap_drewN, World.cell?_drewN, World.frozen?_drewN] at hcx hfx hzx); (try have hlx : w.heap.size < wx.heap.size := by (have hq := hbx.size; (try simp at hq); omega)); (try have hmx : w.heap.size + 1 < wx.heap.size := by (have hq := hbx.size; (try simp at hq); omega)); (try have hnx : w.heap.size + 1 + 1 < wx.heap.size := by (have hq := hbx.size; (try simp at hq); omega)); (try have hpx : b < wx.heap.size := by (have hq := hbx.size; (try simp at hq); omega)); (try have hox : b' < wx.heap.size := by (have hq := hbx.size; (try simp at hq); omega))))
    all_goals
      rw [← HAE.out]
      have h4 := H4.out
      go_wp2_with (first | (go_at_call 21; refine (within_c _ _ _ _).mono ?_; rintro e w' ⟨rfl, rfl⟩))
      refine bodyPost_ret (v := .tuple #[.agg #[.int .i64 0, .int .i64 0], .int .i64 2]) (by simp [results, Try.results7, go_sem, *]) rfl ⟨by rw [HV.out.1, HV.out.2.1, HV.out.2.2], by repeat (with_reducible first | exact Below.refl _ _ | assumption | refine Bel.alloc ?_ _ | refine Bel.step (by assumption) ?_ | refine Below.drew ?_ | refine Bel.drewN ?_ _ | refine Below.setCell ?_ (by first | exact Nat.le_refl _ | omega | (simp; done) | (simp; omega)) _)⟩
  · obtain ⟨⟨a1, a2⟩, ⟨a3, a4⟩, a5, a6⟩ := wfA_bd h1 H3.out
    obtain ⟨m1, m2, m3, m4⟩ := isModel_iff h1
    obtain ⟨k1, k2, k3, k4, k5⟩ := spqW_0 H3.out
    have HAE := Lib.hid (show wfA s z sc n d t = Sn s z (Fl (paL sc d t n + paH sc d t n) 2) from rfl)
    obtain ⟨v1, v2⟩ := inB_iff.1 h4
    have H4 := Lib.hid h4
    clear h4
    go_enter Try.func7, Try.ntmps7
    go_wp2_with fail
    go_at_call 16; refine (isModel_I s z _).mono ?_; rintro e w4 ⟨rfl, hb4⟩; obtain ⟨hc4, hf4, hz4⟩ := bel hb4; (try simp only [World.size_drew, World.cell?_drew, World.frozen?_drew] at hc4 hf4 hz4); (try simp only [World.heap_drewN, World.cell?_drewN, World.frozen?_drewN] at hc4 hf4 hz4); (try have hl4 : w.heap.size < w4.heap.size := by (have hq := hb4.size; (try simp at hq); omega)); (try have hm4 : w.heap.size + 1 < w4.heap.size := by (have hq := hb4.size; (try simp at hq); omega)); (try have hn4 : w.heap.size + 1 + 1 < w4.heap.size := by (have hq := hb4.size; (try simp at hq); omega)); (try have hp4 : b < w4.heap.size := by (have hq := hb4.size; (try simp at hq); omega)); (try have ho4 : b' < w4.heap.size := by (have hq := hb4.size; (try simp at hq); omega))
    go_wp2_with fail
    go_at_call 17; refine (checkPlace_c sc n d t _ 1 _ (prs_one _ _ _ _)).mono ?_; rintro e w4 ⟨rfl, hb4⟩; obtain ⟨hc4, hf4, hz4⟩ := bel hb4; (try simp only [World.size_drew, World.cell?_drew, World.frozen?_drew] at hc4 hf4 hz4); (try simp only [World.heap_drewN, World.cell?_drewN, World.frozen?_drewN] at hc4 hf4 hz4); (try have hl4 : w.heap.size < w4.heap.size := by (have hq := hb4.size; (try simp at hq); omega)); (try have hm4 : w.heap.size + 1 < w4.heap.size := by (have hq := hb4.size; (try simp at hq); omega)); (try have hn4 : w.heap.size + 1 + 1 < w4.heap.size := by (have hq := hb4.size; (try simp at hq); omega)); (try have hp4 : b < w4.heap.size := by (have hq := hb4.size; (try simp at hq); omega)); (try have ho4 : b' < w4.heap.size := by (have hq := hb4.size; (try simp at hq); omega))
    rw [H3.out]
    go_wp2_with fail
    go_at_call 18; refine (place_c sc d t n k1 (by omega) k5 _).mono ?_; rintro e w2 ⟨rfl, hb2⟩; obtain ⟨hc2, hf2, hz2⟩ := bel hb2; (try simp only [World.size_drew, World.cell?_drew, World.frozen?_drew] at hc2 hf2 hz2); (try simp only [World.heap_drewN, World.cell?_drewN, World.frozen?_drewN] at hc2 hf2 hz2); (try have hl2 : w.heap.size < w2.heap.size := by (have hq := hb2.size; (try simp at hq); omega)); (try have hm2 : w.heap.size + 1 < w2.heap.size := by (have hq := hb2.size; (try simp at hq); omega)); (try have hn2 : w.heap.size + 1 + 1 < w2.heap.size := by (have hq := hb2.size; (try simp at hq); omega)); (try have hp2 : b < w2.heap.size := by (have hq := hb2.size; (try simp at hq); omega)); (try have ho2 : b' < w2.heap.size := by (have hq := hb2.size; (try simp at hq); omega))
    generalize paL sc d t n = x at *
    generalize paH sc d t n = y at *
    have e1 : IntKind.i64.wrap (x + y) = x + y := wr64 (by omega) (by omega)
    go_wp2
    go_region_held3 (fun w' => w'.cell? ⟨w.heap.size, 0, none⟩ = some (.int .i64 s) ∧ w'.cell? ⟨w.heap.size, 1, none⟩ = some (.int .i64 z) ∧ w'.cell? ⟨w2.heap.size, 0, none⟩ = some (.int .i64 x) ∧ w'.cell? ⟨w2.heap.size, 1, none⟩ = some (.int .i64 y)) (simp [go_sem, *])
        (first | (go_at_call 20; refine (down_c _ _ (by omega) (by omega) (by omega) (by omega) (by omega) _).mono ?_; rintro e w' ⟨rfl, rfl⟩) | (go_at_call 19; refine (seen_near_c _ _ _ (by omega) (by omega) (by omega) (by omega) (by omega) (by omega) _).mono ?_; rintro e wx ⟨rfl, hbx⟩; obtain ⟨hcx, hfx, hzx⟩ := bel hbx; (try simp only [World.size_drew, World.cell?_drew, World.frozen?_drew] at hcx hfx hzx); (try simp only [World.heap_drewN, World.cell?_drewN, World.frozen?_drewN] at hcx hfx hzx); (try have hlx : w.heap.size < wx.heap.size := by (have hq := hbx.size; (try simp at hq); omega)); (try have hmx : w.heap.size + 1 < wx.heap.size := by (have hq := hbx.size; (try simp at hq); omega)); (try have hnx : w.heap.size + 1 + 1 < wx.heap.size := by (have hq := hbx.size; (try simp at hq); omega)); (try have hpx : b < wx.heap.size := by (have hq := hbx.size; (try simp at hq); omega)); (try have hox : b' < wx.heap.size := by (have hq := hbx.size; (try simp at hq); omega))))
    all_goals
      rw [← HAE.out]
      have h4 := H4.out
      go_wp2_with (first | (go_at_call 21; refine (within_c _ _ _ _).mono ?_; rintro e w' ⟨rfl, rfl⟩))
      go_wp2_with fail
      go_at_call 22; refine (bestReading_c sc n (wfA s z sc n d t) k2 k3 (by omega) k5 (by omega) (by omega) _).mono ?_; rintro e w7 ⟨rfl, hb7⟩; obtain ⟨hc7, hf7, hz7⟩ := bel hb7; (try simp only [World.size_drew, World.cell?_drew, World.frozen?_drew] at hc7 hf7 hz7); (try simp only [World.heap_drewN, World.cell?_drewN, World.frozen?_drewN] at hc7 hf7 hz7); (try have hl7 : w.heap.size < w7.heap.size := by (have hq := hb7.size; (try simp at hq); omega)); (try have hm7 : w.heap.size + 1 < w7.heap.size := by (have hq := hb7.size; (try simp at hq); omega)); (try have hn7 : w.heap.size + 1 + 1 < w7.heap.size := by (have hq := hb7.size; (try simp at hq); omega)); (try have hp7 : b < w7.heap.size := by (have hq := hb7.size; (try simp at hq); omega)); (try have ho7 : b' < w7.heap.size := by (have hq := hb7.size; (try simp at hq); omega))
      go_wp2
      refine bodyPost_ret (v := .tuple #[.agg #[.int .i64 (nfD (brN sc n (wfA s z sc n d t) : Nat)), .int .i64 (nfT (brN sc n (wfA s z sc n d t) : Nat))], .int .i64 0]) (by simp [results, Try.results7, go_sem, *]) rfl ⟨by rw [HV.out.1, HV.out.2.1, HV.out.2.2], by repeat (with_reducible first | exact Below.refl _ _ | assumption | refine Bel.alloc ?_ _ | refine Bel.step (by assumption) ?_ | refine Below.drew ?_ | refine Bel.drewN ?_ _ | refine Below.setCell ?_ (by first | exact Nat.le_refl _ | omega | (simp; done) | (simp; omega)) _)⟩
end Go.Proofs.Ytlphcpmneioogaa
