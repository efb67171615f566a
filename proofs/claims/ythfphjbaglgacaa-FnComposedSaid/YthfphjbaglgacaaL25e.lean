/- Chapter 25: projections that fix every point. Conditions: as stated at each contract. -/
import Derived.Test.YthfphjbaglgacaaProg
import Derived.Test.YthfphjbaglgacaaBase
import Derived.Test.YthfphjbaglgacaaL01
import Derived.Test.YthfphjbaglgacaaCp
import Derived.Test.YthfphjbaglgacaaL25
import Derived.Test.YthfphjbaglgacaaL25b
import Derived.WalkKit
import Derived.WalkSpells
import Derived.WalkLawsBesides
import Derived.Lib.Hide
import Derived.Deep.QuietTactic
import Derived.BigQuiet
import Derived.Deep.Draws
namespace Go.Proofs.Ythfphjbaglgacaa
open Go.RowKit
set_option linter.unusedVariables false
def okAt (m : List Int) (i : Nat) : Bool := if i % 4 = 0 then m.getD i 0 == m.getD 0 0 else m.getD i 0 == 0
def fixN (m : List Int) (n : Nat) : Bool := (List.range n).all (okAt m)
def offN (m : List Int) (n : Nat) : Bool := (List.range n).all (fun i => decide (i % 4 = 0) || m.getD i 0 == 0)
def fixV (m : List Int) : Bool := isPr m && fixN m 9
def fixC (m : List Int) : Int := if isPr m then 0 else 1
theorem fixN_no {m : List Int} {i n : Nat} (h : i < n) (hk : okAt m i = false) : fixN m n = false := by
  unfold fixN
  rw [List.all_eq_false]
  exact ⟨i, List.mem_range.2 h, by simp [hk]⟩
theorem fixN_step {m : List Int} {n : Nat} (h : fixN m n = true) (hk : okAt m n = true) : fixN m (n + 1) = true := by
  unfold fixN at *
  rw [List.range_succ, List.all_append, h]; simp [hk]
theorem offN_step {m : List Int} {n : Nat} (h : offN m n = true) (hk : n % 4 = 0 ∨ m.getD n 0 = 0) : offN m (n + 1) = true := by
  unfold offN at *
  rw [List.range_succ, List.all_append, h]
  simp only [List.all_cons, List.all_nil, Bool.and_true, Bool.true_and, Bool.or_eq_true, decide_eq_true_eq, beq_iff_eq]
  exact hk
theorem fix_off {m : List Int} (h : offN m 9 = true) : fixN m 9 = (m.getD 0 0 == m.getD 4 0 && m.getD 4 0 == m.getD 8 0) := by
  simp only [offN, fixN, okAt, List.range, List.range.loop, List.all_cons, List.all_nil, Nat.reduceMod, decide_true, decide_false, Bool.true_or, Bool.false_or, Bool.and_true, Bool.true_and, if_true, if_false, Bool.and_eq_true, beq_iff_eq, Nat.reduceEqDiff, reduceCtorEq, ↓reduceIte, beq_self_eq_true, Nat.one_ne_zero] at h ⊢
  grind
set_option maxHeartbeats 800000 in
theorem FixedByAll_S (A : Option Addr) (c : Nat) (m : List Int) (hn : m.length ≤ 1048576) (w : World) (hA : Ints w A m) :
    Calls Try.prog 46 #[.slice A m.length c] w fun e w' => e = .returned (.tuple #[.bool (fixV m), .int .i64 (fixC m)]) ∧ Below w.heap.size w w' := by
  by_cases hp : isPr m = true
  · obtain ⟨p1, p2, p3⟩ := isPr_iff hp
    have HV := Lib.hid <| show fixV m = fixN m 9 ∧ fixC m = 0 from by simp [fixV, fixC, hp]
    have HM := Lib.hid p2
    clear p1 p2 p3
    go_enter Try.func46, Try.ntmps46
    go_wp2_with fail
    go_at_call 34; refine (IsProjection_S _ _ _ hn _ hA).mono ?_; rintro e w1 ⟨rfl, hb1⟩; obtain ⟨hc1, hf1, hz1⟩ := bel hb1; (try simp only [World.size_drew, World.cell?_drew, World.frozen?_drew] at hc1 hf1 hz1); (try simp only [World.heap_drewN, World.cell?_drewN, World.frozen?_drewN] at hc1 hf1 hz1); (try have hl1 : w.heap.size < w1.heap.size := by (have hq := hb1.size; (try simp at hq); omega)); (try have hm1 : w.heap.size + 1 < w1.heap.size := by (have hq := hb1.size; (try simp at hq); omega)); (try have hn1 : w.heap.size + 1 + 1 < w1.heap.size := by (have hq := hb1.size; (try simp at hq); omega)); (try have hp1 : b < w1.heap.size := by (have hq := hb1.size; (try simp at hq); omega)); (try have ho1 : b' < w1.heap.size := by (have hq := hb1.size; (try simp at hq); omega))
    have hI := Ints.step hb1 hA
    go_wp2_with fail
    go_loopw [4] (fun i wr => ∃ k : Nat, k ≤ 9 ∧ i = .int .i64 k ∧ offN m k = true ∧ wr = w1) (fun i _ => 9 - (intOf i).toNat)
    case atStart => exact ⟨0, Nat.zero_le _, rfl, rfl, rfl⟩
    case round =>
      obtain ⟨k, hk, rfl, hoff, rfl⟩ := hrel
      by_cases hlt : k < 9
      · obtain ⟨b, o, rfl, hbb, hc⟩ := hI.at_ k (by rw [HM.out]; exact hlt)
        obtain ⟨y, hy⟩ : ∃ y, y = m.getD k 0 := ⟨_, rfl⟩
        rw [← getD_at 0 m k (by rw [HM.out]; exact hlt), ← hy] at hc
        have HO := Lib.hid hoff
        by_cases c1 : k % 4 = 0
        · have c1' : (k : Int) % 4 = 0 := by omega
          have b1 : ((k : Int) % 4 != 0) = false := by simp [c1']
          have HS := Lib.hid (offN_step hoff (Or.inl c1))
          clear c1' hoff hy
          go_wp2
          go_roundw
          case rel => exact ⟨k + 1, by omega, by go_num, HS.out, by first | rfl | trivial⟩
          case measure => simp [intOf]; omega
        · have c1' : ¬ (k : Int) % 4 = 0 := by omega
          have b1 : ((k : Int) % 4 != 0) = true := by simp [c1']
          have x3 : (k : Int) < m.length := by rw [HM.out]; omega
          by_cases c2 : y = 0
          · have b2 : (y != 0) = false := by simp [c2]
            have HS := Lib.hid (offN_step hoff (Or.inr (by rw [← hy, c2])))
            clear c1' hoff hy c2
            go_wp2
            go_roundw
            case rel => exact ⟨k + 1, by omega, by go_num, HS.out, by first | rfl | trivial⟩
            case measure => simp [intOf]; omega
          · have b2 : (y != 0) = true := by simp [c2]
            have HF := Lib.hid <| show fixV m = false from by rw [HV.out.1]; exact fixN_no hlt (by rw [okAt, if_neg c1, ← hy]; simpa using c2)
            clear c1' hoff hy c2
            go_wp2
            go_ret2
            exact ⟨by rw [HF.out, HV.out.2]; rfl, by repeat (with_reducible first | exact Below.refl _ _ | assumption | refine Bel.alloc ?_ _ | refine Bel.step (by assumption) ?_ | refine Below.drew ?_ | refine Bel.drewN ?_ _ | refine Below.setCell ?_ (by first | exact Nat.le_refl _ | omega | (simp; done) | (simp; omega)) _)⟩
      · obtain rfl : k = 9 := by omega
        obtain ⟨b, o, rfl, hbb, hc⟩ := hI (by rw [HM.out]; omega)
        obtain ⟨y0, h0⟩ : ∃ y, y = m.getD 0 0 := ⟨_, rfl⟩
        obtain ⟨y4, h4⟩ : ∃ y, y = m.getD 4 0 := ⟨_, rfl⟩
        obtain ⟨y8, h8⟩ : ∃ y, y = m.getD 8 0 := ⟨_, rfl⟩
        have k0 : wr.cell? ⟨b, o, none⟩ = some (.int .i64 y0) := by rw [h0]; exact hc 0 (by rw [HM.out]; omega)
        have k4 : wr.cell? ⟨b, o + 4, none⟩ = some (.int .i64 y4) := by rw [h4]; exact hc 4 (by rw [HM.out]; omega)
        have k8 : wr.cell? ⟨b, o + 8, none⟩ = some (.int .i64 y8) := by rw [h8]; exact hc 8 (by rw [HM.out]; omega)
        have HF := Lib.hid <| show fixV m = (y0 == y4 && y4 == y8) from by rw [HV.out.1, fix_off hoff, h0, h4, h8]
        have hla : (m.length : Int) = 9 := by rw [HM.out]; rfl
        clear hc h0 h4 h8 hoff
        by_cases c1 : y0 = y4
        · have b1 : (y0 == y4) = true := by simp [c1]
          have HF2 := Lib.hid <| show fixV m = (y4 == y8) from by rw [HF.out, b1]; rfl
          clear c1
          go_wp2
          go_quiet (fail)
          go_wp2
          go_ret2
          exact ⟨by rw [HF2.out, HV.out.2]; rfl, by repeat (with_reducible first | exact Below.refl _ _ | assumption | refine Bel.alloc ?_ _ | refine Bel.step (by assumption) ?_ | refine Below.drew ?_ | refine Bel.drewN ?_ _ | refine Below.setCell ?_ (by first | exact Nat.le_refl _ | omega | (simp; done) | (simp; omega)) _)⟩
        · have b1 : (y0 == y4) = false := by simp [c1]
          have HF2 := Lib.hid <| show fixV m = false from by rw [HF.out, b1]; rfl
          clear c1
          go_wp2
          go_quiet (fail)
          go_wp2
          go_ret2
          exact ⟨by rw [HF2.out, HV.out.2]; rfl, by repeat (with_reducible first | exact Below.refl _ _ | assumption | refine Bel.alloc ?_ _ | refine Bel.step (by assumption) ?_ | refine Below.drew ?_ | refine Bel.drewN ?_ _ | refine Below.setCell ?_ (by first | exact Nat.le_refl _ | omega | (simp; done) | (simp; omega)) _)⟩
  · have hp' : isPr m = false := by simpa using hp
    have HV := Lib.hid <| show fixV m = false ∧ fixC m = 1 from by simp [fixV, fixC, hp']
    clear hp
    go_enter Try.func46, Try.ntmps46
    go_wp2_with fail
    go_at_call 34; refine (IsProjection_S _ _ _ hn _ hA).mono ?_; rintro e w1 ⟨rfl, hb1⟩; obtain ⟨hc1, hf1, hz1⟩ := bel hb1; (try simp only [World.size_drew, World.cell?_drew, World.frozen?_drew] at hc1 hf1 hz1); (try simp only [World.heap_drewN, World.cell?_drewN, World.frozen?_drewN] at hc1 hf1 hz1); (try have hl1 : w.heap.size < w1.heap.size := by (have hq := hb1.size; (try simp at hq); omega)); (try have hm1 : w.heap.size + 1 < w1.heap.size := by (have hq := hb1.size; (try simp at hq); omega)); (try have hn1 : w.heap.size + 1 + 1 < w1.heap.size := by (have hq := hb1.size; (try simp at hq); omega)); (try have hp1 : b < w1.heap.size := by (have hq := hb1.size; (try simp at hq); omega)); (try have ho1 : b' < w1.heap.size := by (have hq := hb1.size; (try simp at hq); omega))
    go_wp2
    go_ret2
    exact ⟨by rw [HV.out.1, HV.out.2]; rfl, by repeat (with_reducible first | exact Below.refl _ _ | assumption | refine Bel.alloc ?_ _ | refine Bel.step (by assumption) ?_ | refine Below.drew ?_ | refine Bel.drewN ?_ _ | refine Below.setCell ?_ (by first | exact Nat.le_refl _ | omega | (simp; done) | (simp; omega)) _)⟩
set_option maxHeartbeats 800000 in
theorem FixedByAll_I (A : Option Addr) (c : Nat) (m : List Int) (hn : m.length ≤ 1048576) (w : World) (hA : Ints w A m) :
    Calls Try.prog 45 #[.slice A m.length c] w fun e w' => e = .returned (.tuple #[.bool (fixV m), .int .i64 (fixC m)]) ∧ Below w.heap.size w w' := by
  by_cases hp : isPr m = true
  · obtain ⟨p1, p2, p3⟩ := isPr_iff hp
    have HV := Lib.hid <| show fixV m = fixN m 9 ∧ fixC m = 0 from by simp [fixV, fixC, hp]
    have HM := Lib.hid p2
    clear p1 p2 p3
    go_enter Try.func45, Try.ntmps45
    go_wp2_with fail
    go_at_call 33; refine (IsProjection_I _ _ _ hn _ hA).mono ?_; rintro e w1 ⟨rfl, hb1⟩; obtain ⟨hc1, hf1, hz1⟩ := bel hb1; (try simp only [World.size_drew, World.cell?_drew, World.frozen?_drew] at hc1 hf1 hz1); (try simp only [World.heap_drewN, World.cell?_drewN, World.frozen?_drewN] at hc1 hf1 hz1); (try have hl1 : w.heap.size < w1.heap.size := by (have hq := hb1.size; (try simp at hq); omega)); (try have hm1 : w.heap.size + 1 < w1.heap.size := by (have hq := hb1.size; (try simp at hq); omega)); (try have hn1 : w.heap.size + 1 + 1 < w1.heap.size := by (have hq := hb1.size; (try simp at hq); omega)); (try have hp1 : b < w1.heap.size := by (have hq := hb1.size; (try simp at hq); omega)); (try have ho1 : b' < w1.heap.size := by (have hq := hb1.size; (try simp at hq); omega))
    have hI := Ints.step hb1 hA
    obtain ⟨b, o, rfl, hbb, hc0⟩ := hI.at_ 0 (by rw [HM.out]; omega)
    obtain ⟨y0, h0⟩ : ∃ y, y = m.getD 0 0 := ⟨_, rfl⟩
    rw [← getD_at 0 m 0 (by rw [HM.out]; omega), ← h0] at hc0
    simp only [Nat.add_zero] at hc0
    have H0 := Lib.hid h0
    have hpos : (0 : Int) < m.length := by rw [HM.out]; omega
    clear h0
    go_wp2_with fail
    go_loopw [4, 5, 11] (fun _ _ i wr => ∃ k : Nat, k ≤ m.length ∧ i = .int .i64 k ∧ fixN m k = true ∧ wr = w1) (fun _ _ i _ => m.length - (intOf i).toNat)
    case atStart => exact ⟨0, Nat.zero_le _, rfl, rfl, rfl⟩
    case round =>
      obtain ⟨k, hk, rfl, hfix, rfl⟩ := hrel
      by_cases hlt : k < m.length
      · obtain ⟨b', o', he, hbb', hc⟩ := hI.at_ k hlt
        obtain ⟨rfl, rfl⟩ : b' = b ∧ o' = o := by injection he with he; injection he with h1 h2; exact ⟨h1.symm, h2.symm⟩
        obtain ⟨y, hy⟩ : ∃ y, y = m.getD k 0 := ⟨_, rfl⟩
        rw [← getD_at 0 m k hlt, ← hy] at hc
        have h9 : k < 9 := by rw [← HM.out]; exact hlt
        clear he
        by_cases c1 : k % 4 = 0
        · have c1' : (k : Int) % 4 = 0 := by omega
          have b1 : ((k : Int) % 4 == 0) = true := by simp [c1']
          have b1' : ((k : Int) % 4 != 0) = false := by simp [c1']
          by_cases c2 : y = y0
          · have b2 : (y != y0) = false := by simp [c2]
            have HS := Lib.hid (fixN_step hfix (by rw [okAt, if_pos c1, ← hy, ← H0.out]; simp [c2]))
            clear c1' hfix hy c2
            go_wp2
            go_roundw
            case rel => exact ⟨k + 1, by omega, by go_num, HS.out, by first | rfl | trivial⟩
            case measure => simp [intOf]; omega
          · have b2 : (y != y0) = true := by simp [c2]
            have HF := Lib.hid <| show fixV m = false from by rw [HV.out.1]; exact fixN_no h9 (by rw [okAt, if_pos c1, ← hy, ← H0.out]; simp [c2])
            clear c1' hfix hy c2
            go_wp2
            go_ret2
            exact ⟨by rw [HF.out, HV.out.2]; rfl, by repeat (with_reducible first | exact Below.refl _ _ | assumption | refine Bel.alloc ?_ _ | refine Bel.step (by assumption) ?_ | refine Below.drew ?_ | refine Bel.drewN ?_ _ | refine Below.setCell ?_ (by first | exact Nat.le_refl _ | omega | (simp; done) | (simp; omega)) _)⟩
        · have c1' : ¬ (k : Int) % 4 = 0 := by omega
          have b1 : ((k : Int) % 4 == 0) = false := by simp [c1']
          have b1' : ((k : Int) % 4 != 0) = true := by simp [c1']
          by_cases c2 : y = 0
          · have b2 : (y != 0) = false := by simp [c2]
            have HS := Lib.hid (fixN_step hfix (by rw [okAt, if_neg c1, ← hy]; simp [c2]))
            clear c1' hfix hy c2
            go_wp2
            go_roundw
            case rel => exact ⟨k + 1, by omega, by go_num, HS.out, by first | rfl | trivial⟩
            case measure => simp [intOf]; omega
          · have b2 : (y != 0) = true := by simp [c2]
            have HF := Lib.hid <| show fixV m = false from by rw [HV.out.1]; exact fixN_no h9 (by rw [okAt, if_neg c1, ← hy]; simp [c2])
            clear c1' hfix hy c2
            go_wp2
            go_ret2
            exact ⟨by rw [HF.out, HV.out.2]; rfl, by repeat (with_reducible first | exact Below.refl _ _ | assumption | refine Bel.alloc ?_ _ | refine Bel.step (by assumption) ?_ | refine Below.drew ?_ | refine Bel.drewN ?_ _ | refine Below.setCell ?_ (by first | exact Nat.le_refl _ | omega | (simp; done) | (simp; omega)) _)⟩
      · obtain rfl : k = m.length := by omega
        have HF := Lib.hid <| show fixV m = true from by rw [HV.out.1, ← HM.out]; exact hfix
        clear hfix
        go_wp2
        go_ret2
        exact ⟨by rw [HF.out, HV.out.2]; rfl, by repeat (with_reducible first | exact Below.refl _ _ | assumption | refine Bel.alloc ?_ _ | refine Bel.step (by assumption) ?_ | refine Below.drew ?_ | refine Bel.drewN ?_ _ | refine Below.setCell ?_ (by first | exact Nat.le_refl _ | omega | (simp; done) | (simp; omega)) _)⟩
  · have hp' : isPr m = false := by simpa using hp
    have HV := Lib.hid <| show fixV m = false ∧ fixC m = 1 from by simp [fixV, fixC, hp']
    clear hp
    go_enter Try.func45, Try.ntmps45
    go_wp2_with fail
    go_at_call 33; refine (IsProjection_I _ _ _ hn _ hA).mono ?_; rintro e w1 ⟨rfl, hb1⟩; obtain ⟨hc1, hf1, hz1⟩ := bel hb1; (try simp only [World.size_drew, World.cell?_drew, World.frozen?_drew] at hc1 hf1 hz1); (try simp only [World.heap_drewN, World.cell?_drewN, World.frozen?_drewN] at hc1 hf1 hz1); (try have hl1 : w.heap.size < w1.heap.size := by (have hq := hb1.size; (try simp at hq); omega)); (try have hm1 : w.heap.size + 1 < w1.heap.size := by (have hq := hb1.size; (try simp at hq); omega)); (try have hn1 : w.heap.size + 1 + 1 < w1.heap.size := by (have hq := hb1.size; (try simp at hq); omega)); (try have hp1 : b < w1.heap.size := by (have hq := hb1.size; (try simp at hq); omega)); (try have ho1 : b' < w1.heap.size := by (have hq := hb1.size; (try simp at hq); omega))
    go_wp2
    go_ret2
    exact ⟨by rw [HV.out.1, HV.out.2]; rfl, by repeat (with_reducible first | exact Below.refl _ _ | assumption | refine Bel.alloc ?_ _ | refine Bel.step (by assumption) ?_ | refine Below.drew ?_ | refine Bel.drewN ?_ _ | refine Below.setCell ?_ (by first | exact Nat.le_refl _ | omega | (simp; done) | (simp; omega)) _)⟩
end Go.Proofs.Ythfphjbaglgacaa
