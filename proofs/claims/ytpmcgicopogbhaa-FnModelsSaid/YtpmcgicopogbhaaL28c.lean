/- Chapter 28: the best model. Conditions: as stated at each contract. -/
import Derived.Test.YtpmcgicopogbhaaProg
import Derived.Test.YtpmcgicopogbhaaBase
import Derived.Test.YtpmcgicopogbhaaL01
import Derived.Test.YtpmcgicopogbhaaCp
import Derived.Test.YtpmcgicopogbhaaL28
import Derived.Test.YtpmcgicopogbhaaL28b
import Derived.WalkKit
import Derived.WalkSpells
import Derived.WalkLawsBesides
import Derived.Lib.Hide
import Derived.Deep.QuietTactic
import Derived.BigQuiet
import Derived.Deep.Draws
import Derived.Deep.RegionHeld3
namespace Go.Proofs.Ytpmcgicopogbhaa
open Go.RowKit
set_option linter.unusedVariables false
def mdK (step : Int) : Int := 100000 / step
def mdF (step : Int) (zs : List (Int × Int)) (j : Int) : Int := shiftF ((j - mdK step) * step) zs
def mdN (step : Int) : Nat := (2 * mdK step + 1).toNat
def mdZ (step : Int) (zs : List (Int × Int)) : Int := ((bst (mdF step zs) (mdN step) : Nat) - mdK step) * step
def bmC (step : Int) (zs : List (Int × Int)) : Int := if codeT zs = 0 then (if inB step 1000 100000 then 0 else 2) else codeT zs
def bmS (step : Int) (zs : List (Int × Int)) : Int := if bmC step zs = 0 then shiftV (mdZ step zs) zs else 0
def bmZ (step : Int) (zs : List (Int × Int)) : Int := if bmC step zs = 0 then mdZ step zs else 0
def bmF (step : Int) (zs : List (Int × Int)) : Int := if bmC step zs = 0 then shiftF (mdZ step zs) zs else 0
theorem bm_0 {step : Int} {zs : List (Int × Int)} (h1 : codeT zs = 0) (h2 : inB step 1000 100000 = true) : bmC step zs = 0 ∧ bmS step zs = shiftV (mdZ step zs) zs ∧ bmZ step zs = mdZ step zs ∧ bmF step zs = shiftF (mdZ step zs) zs := by
  have : bmC step zs = 0 := by simp [bmC, h1, h2]
  simp [bmS, bmZ, bmF, this]
theorem bm_2 {step : Int} {zs : List (Int × Int)} (h1 : codeT zs = 0) (h2 : inB step 1000 100000 = false) : bmC step zs = 2 ∧ bmS step zs = 0 ∧ bmZ step zs = 0 ∧ bmF step zs = 0 := by
  have : bmC step zs = 2 := by simp [bmC, h1, h2]
  simp [bmS, bmZ, bmF, this]
theorem bm_n {step : Int} {zs : List (Int × Int)} (h1 : codeT zs ≠ 0) : bmC step zs = codeT zs ∧ bmS step zs = 0 ∧ bmZ step zs = 0 ∧ bmF step zs = 0 := by
  have : bmC step zs = codeT zs := by simp [bmC, h1]
  simp [bmS, bmZ, bmF, this, h1]
theorem mdK_bd {step : Int} (h1 : 1000 ≤ step) (h2 : step ≤ 100000) : 1 ≤ mdK step ∧ mdK step ≤ 100 ∧ mdK step * step ≤ 100000 ∧ 100000 < (mdK step + 1) * step := by
  have a := Int.ediv_mul_le 100000 (show step ≠ 0 by omega)
  have b := Int.lt_ediv_add_one_mul_self 100000 (show 0 < step by omega)
  have c : 1 ≤ 100000 / step := Int.le_ediv_of_mul_le (by omega) (by omega)
  have d : 100000 / step < 101 := Int.ediv_lt_of_lt_mul (by omega) (by omega)
  unfold mdK
  exact ⟨c, by omega, a, b⟩
theorem mdN_is {step : Int} (h1 : 1000 ≤ step) (h2 : step ≤ 100000) : (mdN step : Int) = 2 * mdK step + 1 := by
  obtain ⟨a, _⟩ := mdK_bd h1 h2
  unfold mdN; omega
theorem md_in {step : Int} (h1 : 1000 ≤ step) (h2 : step ≤ 100000) {k : Nat} (hk : k < mdN step) : -100000 ≤ ((k : Int) - mdK step) * step ∧ ((k : Int) - mdK step) * step ≤ 100000 := by
  obtain ⟨a, b, c, d⟩ := mdK_bd h1 h2
  have e := mdN_is h1 h2
  have f := Int.mul_le_mul_of_nonneg_right (show (k : Int) - mdK step ≤ mdK step by omega) (show 0 ≤ step by omega)
  have g := Int.mul_le_mul_of_nonneg_right (show -mdK step ≤ (k : Int) - mdK step by omega) (show 0 ≤ step by omega)
  rw [Int.neg_mul] at g
  omega
theorem md_out {step : Int} (h1 : 1000 ≤ step) (h2 : step ≤ 100000) {k : Nat} (hk : k = mdN step) : 100000 < ((k : Int) - mdK step) * step ∧ ((k : Int) - mdK step) * step ≤ 20000000 := by
  obtain ⟨a, b, c, d⟩ := mdK_bd h1 h2
  have e := mdN_is h1 h2
  have f : (k : Int) - mdK step = mdK step + 1 := by omega
  rw [f]
  refine ⟨d, ?_⟩
  rw [Int.add_mul]
  omega
theorem shiftF_nonneg {z : Int} {zs : List (Int × Int)} (h1 : -100000 ≤ z) (h2 : z ≤ 100000) (hok : okT zs = true) : 0 ≤ shiftF z zs ∧ shiftF z zs ≤ 4000000000000 := by
  have h := bst_lt (gS z zs) 401
  have : bst (gS z zs) 401 < 401 := (bst_char (gS z zs) 401 (by omega)).1
  exact gS_bd z zs _ this h1 h2 hok
theorem shiftV_bd (z : Int) (zs : List (Int × Int)) : -200 ≤ shiftV z zs ∧ shiftV z zs ≤ 200 := by
  have := (bst_char (gS z zs) 401 (by omega)).1
  unfold shiftV; omega
/-- What the search for the best model knows behind k rounds. -/
def BM (step : Int) (zs : List (Int × Int)) (k : Nat) (p q r : Int) : Prop :=
  (k = 0 ∧ p = 0 ∧ q = 0 ∧ r = -1) ∨ (0 < k ∧ q = ((bst (mdF step zs) k : Nat) - mdK step) * step ∧ p = shiftV q zs ∧ r = shiftF q zs)
theorem BM.take {step : Int} {zs : List (Int × Int)} {k : Nat} {p q r : Int} (h : BM step zs k p q r) (hl : r < 0 ∨ shiftF (((k : Int) - mdK step) * step) zs < r) (hr : 0 < k → 0 ≤ r) :
    BM step zs (k + 1) (shiftV (((k : Int) - mdK step) * step) zs) (((k : Int) - mdK step) * step) (shiftF (((k : Int) - mdK step) * step) zs) := by
  have e : bst (mdF step zs) (k + 1) = k := by
    rcases h with ⟨rfl, _⟩ | ⟨h0, hq, hp, hf⟩
    · simp [bst]
    · refine bst_yes _ _ ?_
      have h1 : mdF step zs (bst (mdF step zs) k : Nat) = r := by rw [hf, hq]; rfl
      rw [h1]
      have := hr h0
      rcases hl with hl | hl
      · omega
      · exact hl
  exact .inr ⟨by omega, by rw [e], rfl, rfl⟩
theorem BM.leave {step : Int} {zs : List (Int × Int)} {k : Nat} {p q r : Int} (h : BM step zs k p q r) (hl : ¬ r < 0) (hf2 : ¬ shiftF (((k : Int) - mdK step) * step) zs < r) : BM step zs (k + 1) p q r := by
  rcases h with ⟨_, _, _, h⟩ | ⟨h0, hq, hp, hf⟩
  · omega
  · have h1 : mdF step zs (bst (mdF step zs) k : Nat) = r := by rw [hf, hq]; rfl
    have e : bst (mdF step zs) (k + 1) = bst (mdF step zs) k := bst_no _ _ (by rw [h1]; exact Int.not_lt.1 hf2)
    exact .inr ⟨by omega, by rw [e]; exact hq, hp, hf⟩
theorem BM.nonneg {step : Int} {zs : List (Int × Int)} {k : Nat} {p q r : Int} (h : BM step zs k p q r) (h1 : 1000 ≤ step) (h2 : step ≤ 100000) (hk : k ≤ mdN step) (hok : okT zs = true) : (0 < k → 0 ≤ r) ∧ -1 ≤ r ∧ r ≤ 4000000000000 := by
  rcases h with ⟨h0, _, _, h⟩ | ⟨h0, hq, hp, hf⟩
  · subst h; omega
  · have hb := (bst_char (mdF step zs) k h0).1
    obtain ⟨a, b⟩ := md_in h1 h2 (show bst (mdF step zs) k < mdN step by omega)
    rw [← hq] at a b
    obtain ⟨c, d⟩ := shiftF_nonneg (zs := zs) a b hok
    omega
theorem BM.fin {step : Int} {zs : List (Int × Int)} {p q r : Int} (h : BM step zs (mdN step) p q r) (h0 : 0 < mdN step) : q = mdZ step zs ∧ p = shiftV (mdZ step zs) zs ∧ r = shiftF (mdZ step zs) zs := by
  rcases h with ⟨h1, _⟩ | ⟨_, hq, hp, hf⟩
  · omega
  · have e : q = mdZ step zs := hq
    subst e
    exact ⟨rfl, hp, hf⟩
set_option maxHeartbeats 2000000 in
theorem BestModel_S (step : Int) (A : Option Addr) (c : Nat) (zs : List (Int × Int)) (hn : zs.length ≤ 1048576) (w : World) (hA : Prs w A zs) :
    Calls Try.prog 42 #[.slice A zs.length c, .int .i64 step] w fun e w' => e = .returned (.tuple #[.agg #[.int .i64 (bmS step zs), .int .i64 (bmZ step zs)], .int .i64 (bmF step zs), .int .i64 (bmC step zs)]) ∧ Below w.heap.size w w' := by
  by_cases c1 : codeT zs = 0
  · have H0 := Lib.hid c1
    obtain ⟨c4, c5⟩ := codeT_0 c1
    by_cases c2 : inB step 1000 100000 = true
    · obtain ⟨b1, b2⟩ := inB_iff.1 c2
      have HV := Lib.hid (bm_0 c1 c2)
      have hN0 := mdN_is b1 b2
      obtain ⟨K1, K2, K3, K4⟩ := mdK_bd b1 b2
      have HK := Lib.hid (show mdK step = 100000 / step from rfl)
      have hI1 : ∀ k : Nat, k < mdN step → -100000 ≤ ((k : Int) - mdK step) * step ∧ ((k : Int) - mdK step) * step ≤ 100000 := fun k hk => md_in b1 b2 hk
      have hI := Lib.hid hI1
      have hO := Lib.hid (md_out b1 b2 (k := mdN step) rfl)
      have Q1 : 1 ≤ 100000 / step := K1
      have Q2 : 100000 / step ≤ 100 := K2
      have K5 : 0 ≤ mdK step * step := Int.mul_nonneg (by omega) (by omega)
      have q3 : IntKind.i64.wrap (-(100000 / step) * step) = -(100000 / step) * step := by rw [← HK.out, Int.neg_mul]; exact wr64 (by omega) (by omega)
      have HN0 := Lib.hid hN0
      clear c1 hI1 hN0
      go_enter Try.func42, Try.ntmps42
      go_wp2_with fail
      refine (l28Code_c _ _ _ hn _ (Prs.alloc _ hA)).mono ?_; rintro e w' ⟨rfl, rfl⟩
      rw [H0.out]
      go_wp2_with (first | (go_at_call 124; refine (l01In_c _ _ _ _).mono ?_; rintro e w' ⟨rfl, rfl⟩))
      go_loopw [9, 11, 12, 13] (fun l st _ _ wr => ∃ (k : Nat) (p q r : Int), k ≤ mdN step ∧ st = .int .i64 (((k : Int) - mdK step) * step) ∧ l = .int .i64 r ∧ Hid (BM step zs k p q r) ∧ Blk wr (w.heap.size + 1) 73 #[.int .i64 p, .int .i64 q] ∧ Blk wr w.heap.size 73 #[.int .i64 0, .int .i64 0] ∧ Below w.heap.size w wr) (fun _ st _ _ _ => (200000 - intOf st).toNat)
      case atStart =>
        have hN := Blk.new (w.alloc (.cells #[.int .i64 0, .int .i64 0] 73)) 73 #[.int .i64 0, .int .i64 0]
        simp only [World.size_alloc] at hN
        exact ⟨0, 0, 0, -1, Nat.zero_le _, congrArg (Value.int .i64) (by rw [HK.out]; simp), rfl, .inl ⟨rfl, rfl, rfl, rfl⟩, hN, Blk.alloc _ (Blk.new _ _ _), by repeat (with_reducible first | exact Below.refl _ _ | assumption | refine Bel.alloc ?_ _ | refine Bel.step (by assumption) ?_ | refine Below.drew ?_ | refine Bel.drewN ?_ _ | refine Below.setCell ?_ (by first | exact Nat.le_refl _ | omega | (simp; done) | (simp; omega)) _)⟩
      case round =>
        obtain ⟨k, p, q, r, hk, rfl, rfl, H, hB, hR, hbel⟩ := hrel
        have hA1 := Prs.step hbel hA
        by_cases hlt : k < mdN step
        · obtain ⟨z1, z2⟩ := hI.out k hlt
          have HS := Lib.hid (show (((k + 1 : Nat) : Int) - mdK step) * step = ((k : Int) - mdK step) * step + step by rw [show (((k + 1 : Nat) : Int) - mdK step) = ((k : Int) - mdK step) + 1 by omega, Int.add_mul, Int.one_mul])
          obtain ⟨r1, r2, r3⟩ := H.out.nonneg b1 b2 hk c4
          have HT := Lib.hid (fun hl => BM.take H.out hl r1)
          have HL := Lib.hid (fun a b => BM.leave H.out a b)
          obtain ⟨f1, f2⟩ := shiftF_nonneg (zs := zs) z1 z2 c4
          obtain ⟨g1, g2⟩ := shiftV_bd (((k : Int) - mdK step) * step) zs
          have ez : IntKind.i64.wrap (((k : Int) - mdK step) * step) = ((k : Int) - mdK step) * step := wr64 (by omega) (by omega)
          have kN : (k : Int) - mdK step ≤ 100 := by have := HN0.out; omega
          have kM : -100 ≤ (k : Int) - mdK step := by omega
          have k0 : wr.cell? ⟨w.heap.size + 1, 0, none⟩ = some (.int .i64 p) := by rw [hB.cell]; rfl
          have k1 : wr.cell? ⟨w.heap.size + 1, 1, none⟩ = some (.int .i64 q) := by rw [hB.cell]; rfl
          have q0 := hB.frozen 0
          have q1 := hB.frozen 1
          have blt := hB.lt
          have rlt := hR.lt
          have HB := Lib.hid hB
          have HR := Lib.hid hR
          clear hB hR r1
          by_cases hr : r < 0
          · go_wp2_with fail
            go_at_call 125; refine (l28Shift_c _ _ _ _ z1 z2 c4 hn _ hA1).mono ?_; rintro e w7 ⟨rfl, hb7⟩; obtain ⟨hc7, hf7, hz7⟩ := bel hb7; (try simp only [World.size_drew, World.cell?_drew, World.frozen?_drew] at hc7 hf7 hz7); (try simp only [World.heap_drewN, World.cell?_drewN, World.frozen?_drewN] at hc7 hf7 hz7); (try have hl7 : w.heap.size < w7.heap.size := by (have hq := hb7.size; (try simp at hq); omega)); (try have hm7 : w.heap.size + 1 < w7.heap.size := by (have hq := hb7.size; (try simp at hq); omega)); (try have hn7 : w.heap.size + 1 + 1 < w7.heap.size := by (have hq := hb7.size; (try simp at hq); omega)); (try have hp7 : b < w7.heap.size := by (have hq := hb7.size; (try simp at hq); omega)); (try have ho7 : b' < w7.heap.size := by (have hq := hb7.size; (try simp at hq); omega))
            have hB7 := ((Blk.step hb7 HB.out).set_ 0 (.int .i64 (shiftV (((k : Int) - mdK step) * step) zs))).set_ 1 (.int .i64 (((k : Int) - mdK step) * step))
            have HB7 := Lib.hid hB7
            have hR7 := Blk.far (p := ⟨w.heap.size + 1, 1, none⟩) (.int .i64 (((k : Int) - mdK step) * step)) (by first | (simp; done) | (simp; omega)) (Blk.far (p := ⟨w.heap.size + 1, 0, none⟩) (.int .i64 (shiftV (((k : Int) - mdK step) * step) zs)) (by first | (simp; done) | (simp; omega)) (Blk.step hb7 HR.out))
            have HR7 := Lib.hid hR7
            clear hB7 hR7
            go_wp2
            go_roundw
            case rel => exact ⟨k + 1, _, _, _, by omega, by rw [HS.out], rfl, HT.out (.inl hr), HB7.out, HR7.out, ((Bel.step hb7 hbel).setCell (by simp) _).setCell (by simp) _⟩
            case measure => simp [intOf]; omega
          · by_cases he : shiftF (((k : Int) - mdK step) * step) zs < r
            · go_wp2_with fail
              go_at_call 125; refine (l28Shift_c _ _ _ _ z1 z2 c4 hn _ hA1).mono ?_; rintro e w7 ⟨rfl, hb7⟩; obtain ⟨hc7, hf7, hz7⟩ := bel hb7; (try simp only [World.size_drew, World.cell?_drew, World.frozen?_drew] at hc7 hf7 hz7); (try simp only [World.heap_drewN, World.cell?_drewN, World.frozen?_drewN] at hc7 hf7 hz7); (try have hl7 : w.heap.size < w7.heap.size := by (have hq := hb7.size; (try simp at hq); omega)); (try have hm7 : w.heap.size + 1 < w7.heap.size := by (have hq := hb7.size; (try simp at hq); omega)); (try have hn7 : w.heap.size + 1 + 1 < w7.heap.size := by (have hq := hb7.size; (try simp at hq); omega)); (try have hp7 : b < w7.heap.size := by (have hq := hb7.size; (try simp at hq); omega)); (try have ho7 : b' < w7.heap.size := by (have hq := hb7.size; (try simp at hq); omega))
              have hB7 := ((Blk.step hb7 HB.out).set_ 0 (.int .i64 (shiftV (((k : Int) - mdK step) * step) zs))).set_ 1 (.int .i64 (((k : Int) - mdK step) * step))
              have HB7 := Lib.hid hB7
              have hR7 := Blk.far (p := ⟨w.heap.size + 1, 1, none⟩) (.int .i64 (((k : Int) - mdK step) * step)) (by first | (simp; done) | (simp; omega)) (Blk.far (p := ⟨w.heap.size + 1, 0, none⟩) (.int .i64 (shiftV (((k : Int) - mdK step) * step) zs)) (by first | (simp; done) | (simp; omega)) (Blk.step hb7 HR.out))
              have HR7 := Lib.hid hR7
              clear hB7 hR7
              go_wp2
              go_roundw
              case rel => exact ⟨k + 1, _, _, _, by omega, by rw [HS.out], rfl, HT.out (.inr he), HB7.out, HR7.out, ((Bel.step hb7 hbel).setCell (by simp) _).setCell (by simp) _⟩
              case measure => simp [intOf]; omega
            · go_wp2_with fail
              go_at_call 125; refine (l28Shift_c _ _ _ _ z1 z2 c4 hn _ hA1).mono ?_; rintro e w7 ⟨rfl, hb7⟩; obtain ⟨hc7, hf7, hz7⟩ := bel hb7; (try simp only [World.size_drew, World.cell?_drew, World.frozen?_drew] at hc7 hf7 hz7); (try simp only [World.heap_drewN, World.cell?_drewN, World.frozen?_drewN] at hc7 hf7 hz7); (try have hl7 : w.heap.size < w7.heap.size := by (have hq := hb7.size; (try simp at hq); omega)); (try have hm7 : w.heap.size + 1 < w7.heap.size := by (have hq := hb7.size; (try simp at hq); omega)); (try have hn7 : w.heap.size + 1 + 1 < w7.heap.size := by (have hq := hb7.size; (try simp at hq); omega)); (try have hp7 : b < w7.heap.size := by (have hq := hb7.size; (try simp at hq); omega)); (try have ho7 : b' < w7.heap.size := by (have hq := hb7.size; (try simp at hq); omega))
              go_wp2
              go_roundw
              case rel => exact ⟨k + 1, p, q, r, by omega, by rw [HS.out], rfl, HL.out hr he, Blk.step hb7 HB.out, Blk.step hb7 HR.out, by repeat (with_reducible first | exact Below.refl _ _ | assumption | refine Bel.alloc ?_ _ | refine Bel.step (by assumption) ?_ | refine Below.drew ?_ | refine Bel.drewN ?_ _ | refine Below.setCell ?_ (by first | exact Nat.le_refl _ | omega | (simp; done) | (simp; omega)) _)⟩
              case measure => simp [intOf]; omega
        · obtain rfl : k = mdN step := by omega
          obtain ⟨o1, o2⟩ := hO.out
          have HF := Lib.hid (H.out.fin (by have := HN0.out; omega))
          have eo : IntKind.i64.wrap (((mdN step : Int) - mdK step) * step) = ((mdN step : Int) - mdK step) * step := wr64 (by omega) (by omega)
          have k0 : wr.cell? ⟨w.heap.size + 1, 0, none⟩ = some (.int .i64 p) := by rw [hB.cell]; rfl
          have k1 : wr.cell? ⟨w.heap.size + 1, 1, none⟩ = some (.int .i64 q) := by rw [hB.cell]; rfl
          have r0 : wr.cell? ⟨w.heap.size, 0, none⟩ = some (.int .i64 0) := by rw [hR.cell]; rfl
          have r1 : wr.cell? ⟨w.heap.size, 1, none⟩ = some (.int .i64 0) := by rw [hR.cell]; rfl
          have q0 := hR.frozen 0
          have q1 := hR.frozen 1
          clear hB hR
          go_wp2
          refine bodyPost_ret (v := .tuple #[.agg #[.int .i64 p, .int .i64 q], .int .i64 r, .int .i64 0]) (by simp [results, Try.results42, go_sem, *]) rfl ⟨by rw [HV.out.1, HV.out.2.1, HV.out.2.2.1, HV.out.2.2.2, ← HF.out.1, HF.out.2.1, HF.out.2.2, HF.out.1], ?_⟩
          exact (hbel.setCell (by simp) _).setCell (by simp) _
    · have c2' : inB step 1000 100000 = false := by simpa using c2
      have HV := Lib.hid (bm_2 c1 c2')
      clear c1 c2
      go_enter Try.func42, Try.ntmps42
      go_wp2_with fail
      refine (l28Code_c _ _ _ hn _ (Prs.alloc _ hA)).mono ?_; rintro e w' ⟨rfl, rfl⟩
      rw [H0.out]
      go_wp2_with (first | (go_at_call 124; refine (l01In_c _ _ _ _).mono ?_; rintro e w' ⟨rfl, rfl⟩))
      refine bodyPost_ret (v := .tuple #[.agg #[.int .i64 0, .int .i64 0], .int .i64 0, .int .i64 2]) (by simp [results, Try.results42, go_sem, *]) rfl ⟨by rw [HV.out.1, HV.out.2.1, HV.out.2.2.1, HV.out.2.2.2], by repeat (with_reducible first | exact Below.refl _ _ | assumption | refine Bel.alloc ?_ _ | refine Bel.step (by assumption) ?_ | refine Below.drew ?_ | refine Bel.drewN ?_ _ | refine Below.setCell ?_ (by first | exact Nat.le_refl _ | omega | (simp; done) | (simp; omega)) _)⟩
  · have HV := Lib.hid (bm_n (step := step) c1)
    have b1 : (codeT zs != 0) = true := by simpa using c1
    have b2 : (codeT zs == 0) = false := by simpa using c1
    clear c1
    go_enter Try.func42, Try.ntmps42
    go_wp2_with fail
    refine (l28Code_c _ _ _ hn _ (Prs.alloc _ hA)).mono ?_; rintro e w' ⟨rfl, rfl⟩
    go_wp2
    refine bodyPost_ret (v := .tuple #[.agg #[.int .i64 0, .int .i64 0], .int .i64 0, .int .i64 (codeT zs)]) (by simp [results, Try.results42, go_sem, *]) rfl ⟨by rw [HV.out.1, HV.out.2.1, HV.out.2.2.1, HV.out.2.2.2], by repeat (with_reducible first | exact Below.refl _ _ | assumption | refine Bel.alloc ?_ _ | refine Bel.step (by assumption) ?_ | refine Below.drew ?_ | refine Bel.drewN ?_ _ | refine Below.setCell ?_ (by first | exact Nat.le_refl _ | omega | (simp; done) | (simp; omega)) _)⟩
set_option maxHeartbeats 2000000 in
theorem BestModel_I (step : Int) (A : Option Addr) (c : Nat) (zs : List (Int × Int)) (hn : zs.length ≤ 1048576) (w : World) (hA : Prs w A zs) :
    Calls Try.prog 41 #[.slice A zs.length c, .int .i64 step] w fun e w' => e = .returned (.tuple #[.agg #[.int .i64 (bmS step zs), .int .i64 (bmZ step zs)], .int .i64 (bmF step zs), .int .i64 (bmC step zs)]) ∧ Below w.heap.size w w' := by
  by_cases c1 : codeT zs = 0
  · have H0 := Lib.hid c1
    obtain ⟨c4, c5⟩ := codeT_0 c1
    by_cases c2 : inB step 1000 100000 = true
    · obtain ⟨b1, b2⟩ := inB_iff.1 c2
      have HV := Lib.hid (bm_0 c1 c2)
      have hN0 := mdN_is b1 b2
      obtain ⟨K1, K2, K3, K4⟩ := mdK_bd b1 b2
      have HK := Lib.hid (show mdK step = 100000 / step from rfl)
      have hI1 : ∀ k : Nat, k < mdN step → -100000 ≤ ((k : Int) - mdK step) * step ∧ ((k : Int) - mdK step) * step ≤ 100000 := fun k hk => md_in b1 b2 hk
      have hI := Lib.hid hI1
      have hO := Lib.hid (md_out b1 b2 (k := mdN step) rfl)
      have Q1 : 1 ≤ 100000 / step := K1
      have Q2 : 100000 / step ≤ 100 := K2
      have K5 : 0 ≤ mdK step * step := Int.mul_nonneg (by omega) (by omega)
      have q3 : IntKind.i64.wrap (-(100000 / step) * step) = -(100000 / step) * step := by rw [← HK.out, Int.neg_mul]; exact wr64 (by omega) (by omega)
      have HN0 := Lib.hid hN0
      clear c1 hI1 hN0
      go_enter Try.func41, Try.ntmps41
      go_wp2_with fail
      refine (checkTests_c _ _ _ hn _ (Prs.alloc _ hA)).mono ?_; rintro e w1 ⟨rfl, hb1⟩
      obtain ⟨hc1, hf1, hz1⟩ := bel hb1
      have hl1 : w.heap.size < w1.heap.size := by have := hb1.size; simp at this; omega
      rw [H0.out]
      go_wp2_with (first | (go_at_call 103; refine (within_c _ _ _ _).mono ?_; rintro e w' ⟨rfl, rfl⟩))
      go_loopw [9, 10, 11, 12] (fun l st _ _ wr => ∃ (k : Nat) (p q r : Int), k ≤ mdN step ∧ st = .int .i64 ((k : Int) - mdK step) ∧ l = .int .i64 r ∧ Hid (BM step zs k p q r) ∧ Blk wr w1.heap.size 73 #[.int .i64 p, .int .i64 q] ∧ Blk wr w.heap.size 73 #[.int .i64 0, .int .i64 0] ∧ Below w.heap.size w wr) (fun _ st _ _ _ => (200 - intOf st).toNat)
      case atStart =>
        exact ⟨0, 0, 0, -1, Nat.zero_le _, congrArg (Value.int .i64) (by rw [HK.out]; simp), rfl, .inl ⟨rfl, rfl, rfl, rfl⟩, Blk.new _ _ _, Blk.alloc _ (Blk.step hb1 (Blk.new _ _ _)), by repeat (with_reducible first | exact Below.refl _ _ | assumption | refine Bel.alloc ?_ _ | refine Bel.step (by assumption) ?_ | refine Below.drew ?_ | refine Bel.drewN ?_ _ | refine Below.setCell ?_ (by first | exact Nat.le_refl _ | omega | (simp; done) | (simp; omega)) _)⟩
      case round =>
        obtain ⟨k, p, q, r, hk, rfl, rfl, H, hB, hR, hbel⟩ := hrel
        clear hb1 hc1 hf1 hz1
        have hA1 := Prs.step hbel hA
        by_cases hlt : k < mdN step
        · obtain ⟨z1, z2⟩ := hI.out k hlt
          have HS := Lib.hid (show (((k + 1 : Nat) : Int) - mdK step) * step = ((k : Int) - mdK step) * step + step by rw [show (((k + 1 : Nat) : Int) - mdK step) = ((k : Int) - mdK step) + 1 by omega, Int.add_mul, Int.one_mul])
          obtain ⟨r1, r2, r3⟩ := H.out.nonneg b1 b2 hk c4
          have HT := Lib.hid (fun hl => BM.take H.out hl r1)
          have HL := Lib.hid (fun a b => BM.leave H.out a b)
          obtain ⟨f1, f2⟩ := shiftF_nonneg (zs := zs) z1 z2 c4
          obtain ⟨g1, g2⟩ := shiftV_bd (((k : Int) - mdK step) * step) zs
          have ez : IntKind.i64.wrap (((k : Int) - mdK step) * step) = ((k : Int) - mdK step) * step := wr64 (by omega) (by omega)
          have kN : (k : Int) - mdK step ≤ 100 := by have := HN0.out; omega
          have kM : -100 ≤ (k : Int) - mdK step := by omega
          have k0 : wr.cell? ⟨w1.heap.size, 0, none⟩ = some (.int .i64 p) := by rw [hB.cell]; rfl
          have k1 : wr.cell? ⟨w1.heap.size, 1, none⟩ = some (.int .i64 q) := by rw [hB.cell]; rfl
          have q0 := hB.frozen 0
          have q1 := hB.frozen 1
          have blt := hB.lt
          have rlt := hR.lt
          have HB := Lib.hid hB
          have HR := Lib.hid hR
          clear hB hR r1
          by_cases hr : r < 0
          · go_wp2_with fail
            go_at_call 122; refine (bestShift_c _ _ _ _ z1 z2 c4 hn _ hA1).mono ?_; rintro e w7 ⟨rfl, hb7⟩; obtain ⟨hc7, hf7, hz7⟩ := bel hb7; (try simp only [World.size_drew, World.cell?_drew, World.frozen?_drew] at hc7 hf7 hz7); (try simp only [World.heap_drewN, World.cell?_drewN, World.frozen?_drewN] at hc7 hf7 hz7); (try have hl7 : w.heap.size < w7.heap.size := by (have hq := hb7.size; (try simp at hq); omega)); (try have hm7 : w.heap.size + 1 < w7.heap.size := by (have hq := hb7.size; (try simp at hq); omega)); (try have hn7 : w.heap.size + 1 + 1 < w7.heap.size := by (have hq := hb7.size; (try simp at hq); omega)); (try have hp7 : b < w7.heap.size := by (have hq := hb7.size; (try simp at hq); omega)); (try have ho7 : b' < w7.heap.size := by (have hq := hb7.size; (try simp at hq); omega))
            have hB7 := ((Blk.step hb7 HB.out).set_ 0 (.int .i64 (shiftV (((k : Int) - mdK step) * step) zs))).set_ 1 (.int .i64 (((k : Int) - mdK step) * step))
            have HB7 := Lib.hid hB7
            have hR7 := Blk.far (p := ⟨w1.heap.size, 1, none⟩) (.int .i64 (((k : Int) - mdK step) * step)) (by first | (simp; done) | (simp; omega)) (Blk.far (p := ⟨w1.heap.size, 0, none⟩) (.int .i64 (shiftV (((k : Int) - mdK step) * step) zs)) (by first | (simp; done) | (simp; omega)) (Blk.step hb7 HR.out))
            have HR7 := Lib.hid hR7
            clear hB7 hR7
            go_wp2
            go_roundw
            case rel => exact ⟨k + 1, _, _, _, by omega, congrArg (Value.int .i64) (by omega), rfl, HT.out (.inl hr), Blk.alloc _ HB7.out, Blk.alloc _ HR7.out, Bel.alloc (((Bel.step hb7 hbel).setCell (by simp; omega) _).setCell (by simp; omega) _) _⟩
            case measure => simp [intOf]; omega
          · by_cases he : shiftF (((k : Int) - mdK step) * step) zs < r
            · go_wp2_with fail
              go_at_call 122; refine (bestShift_c _ _ _ _ z1 z2 c4 hn _ hA1).mono ?_; rintro e w7 ⟨rfl, hb7⟩; obtain ⟨hc7, hf7, hz7⟩ := bel hb7; (try simp only [World.size_drew, World.cell?_drew, World.frozen?_drew] at hc7 hf7 hz7); (try simp only [World.heap_drewN, World.cell?_drewN, World.frozen?_drewN] at hc7 hf7 hz7); (try have hl7 : w.heap.size < w7.heap.size := by (have hq := hb7.size; (try simp at hq); omega)); (try have hm7 : w.heap.size + 1 < w7.heap.size := by (have hq := hb7.size; (try simp at hq); omega)); (try have hn7 : w.heap.size + 1 + 1 < w7.heap.size := by (have hq := hb7.size; (try simp at hq); omega)); (try have hp7 : b < w7.heap.size := by (have hq := hb7.size; (try simp at hq); omega)); (try have ho7 : b' < w7.heap.size := by (have hq := hb7.size; (try simp at hq); omega))
              have hB7 := ((Blk.step hb7 HB.out).set_ 0 (.int .i64 (shiftV (((k : Int) - mdK step) * step) zs))).set_ 1 (.int .i64 (((k : Int) - mdK step) * step))
              have HB7 := Lib.hid hB7
              have hR7 := Blk.far (p := ⟨w1.heap.size, 1, none⟩) (.int .i64 (((k : Int) - mdK step) * step)) (by first | (simp; done) | (simp; omega)) (Blk.far (p := ⟨w1.heap.size, 0, none⟩) (.int .i64 (shiftV (((k : Int) - mdK step) * step) zs)) (by first | (simp; done) | (simp; omega)) (Blk.step hb7 HR.out))
              have HR7 := Lib.hid hR7
              clear hB7 hR7
              go_wp2
              go_roundw
              case rel => exact ⟨k + 1, _, _, _, by omega, congrArg (Value.int .i64) (by omega), rfl, HT.out (.inr he), Blk.alloc _ HB7.out, Blk.alloc _ HR7.out, Bel.alloc (((Bel.step hb7 hbel).setCell (by simp; omega) _).setCell (by simp; omega) _) _⟩
              case measure => simp [intOf]; omega
            · go_wp2_with fail
              go_at_call 122; refine (bestShift_c _ _ _ _ z1 z2 c4 hn _ hA1).mono ?_; rintro e w7 ⟨rfl, hb7⟩; obtain ⟨hc7, hf7, hz7⟩ := bel hb7; (try simp only [World.size_drew, World.cell?_drew, World.frozen?_drew] at hc7 hf7 hz7); (try simp only [World.heap_drewN, World.cell?_drewN, World.frozen?_drewN] at hc7 hf7 hz7); (try have hl7 : w.heap.size < w7.heap.size := by (have hq := hb7.size; (try simp at hq); omega)); (try have hm7 : w.heap.size + 1 < w7.heap.size := by (have hq := hb7.size; (try simp at hq); omega)); (try have hn7 : w.heap.size + 1 + 1 < w7.heap.size := by (have hq := hb7.size; (try simp at hq); omega)); (try have hp7 : b < w7.heap.size := by (have hq := hb7.size; (try simp at hq); omega)); (try have ho7 : b' < w7.heap.size := by (have hq := hb7.size; (try simp at hq); omega))
              go_wp2
              go_roundw
              case rel => exact ⟨k + 1, p, q, r, by omega, congrArg (Value.int .i64) (by omega), rfl, HL.out hr he, Blk.alloc _ (Blk.step hb7 HB.out), Blk.alloc _ (Blk.step hb7 HR.out), by repeat (with_reducible first | exact Below.refl _ _ | assumption | refine Bel.alloc ?_ _ | refine Bel.step (by assumption) ?_ | refine Below.drew ?_ | refine Bel.drewN ?_ _ | refine Below.setCell ?_ (by first | exact Nat.le_refl _ | omega | (simp; done) | (simp; omega)) _)⟩
              case measure => simp [intOf]; omega
        · obtain rfl : k = mdN step := by omega
          obtain ⟨o1, o2⟩ := hO.out
          have HF := Lib.hid (H.out.fin (by have := HN0.out; omega))
          have eo : IntKind.i64.wrap (((mdN step : Int) - mdK step) * step) = ((mdN step : Int) - mdK step) * step := wr64 (by omega) (by omega)
          have k0 : wr.cell? ⟨w1.heap.size, 0, none⟩ = some (.int .i64 p) := by rw [hB.cell]; rfl
          have k1 : wr.cell? ⟨w1.heap.size, 1, none⟩ = some (.int .i64 q) := by rw [hB.cell]; rfl
          have r0 : wr.cell? ⟨w.heap.size, 0, none⟩ = some (.int .i64 0) := by rw [hR.cell]; rfl
          have r1 : wr.cell? ⟨w.heap.size, 1, none⟩ = some (.int .i64 0) := by rw [hR.cell]; rfl
          have q0 := hR.frozen 0
          have q1 := hR.frozen 1
          clear hB hR
          go_wp2
          refine bodyPost_ret (v := .tuple #[.agg #[.int .i64 p, .int .i64 q], .int .i64 r, .int .i64 0]) (by simp [results, Try.results41, go_sem, *]) rfl ⟨by rw [HV.out.1, HV.out.2.1, HV.out.2.2.1, HV.out.2.2.2, ← HF.out.1, HF.out.2.1, HF.out.2.2, HF.out.1], ?_⟩
          exact (hbel.setCell (by simp) _).setCell (by simp) _
    · have c2' : inB step 1000 100000 = false := by simpa using c2
      have HV := Lib.hid (bm_2 c1 c2')
      clear c1 c2
      go_enter Try.func41, Try.ntmps41
      go_wp2_with fail
      refine (checkTests_c _ _ _ hn _ (Prs.alloc _ hA)).mono ?_; rintro e w1 ⟨rfl, hb1⟩
      obtain ⟨hc1, hf1, hz1⟩ := bel hb1
      have hl1 : w.heap.size < w1.heap.size := by have := hb1.size; simp at this; omega
      rw [H0.out]
      go_wp2_with (first | (go_at_call 103; refine (within_c _ _ _ _).mono ?_; rintro e w' ⟨rfl, rfl⟩))
      refine bodyPost_ret (v := .tuple #[.agg #[.int .i64 0, .int .i64 0], .int .i64 0, .int .i64 2]) (by simp [results, Try.results41, go_sem, *]) rfl ⟨by rw [HV.out.1, HV.out.2.1, HV.out.2.2.1, HV.out.2.2.2], by repeat (with_reducible first | exact Below.refl _ _ | assumption | refine Bel.alloc ?_ _ | refine Bel.step (by assumption) ?_ | refine Below.drew ?_ | refine Bel.drewN ?_ _ | refine Below.setCell ?_ (by first | exact Nat.le_refl _ | omega | (simp; done) | (simp; omega)) _)⟩
  · have HV := Lib.hid (bm_n (step := step) c1)
    have b1 : (codeT zs != 0) = true := by simpa using c1
    have b2 : (codeT zs == 0) = false := by simpa using c1
    clear c1
    go_enter Try.func41, Try.ntmps41
    go_wp2_with fail
    refine (checkTests_c _ _ _ hn _ (Prs.alloc _ hA)).mono ?_; rintro e w1 ⟨rfl, hb1⟩
    obtain ⟨hc1, hf1, hz1⟩ := bel hb1
    have hl1 : w.heap.size < w1.heap.size := by have := hb1.size; simp at this; omega
    go_wp2
    refine bodyPost_ret (v := .tuple #[.agg #[.int .i64 0, .int .i64 0], .int .i64 0, .int .i64 (codeT zs)]) (by simp [results, Try.results41, go_sem, *]) rfl ⟨by rw [HV.out.1, HV.out.2.1, HV.out.2.2.1, HV.out.2.2.2], by repeat (with_reducible first | exact Below.refl _ _ | assumption | refine Bel.alloc ?_ _ | refine Bel.step (by assumption) ?_ | refine Below.drew ?_ | refine Bel.drewN ?_ _ | refine Below.setCell ?_ (by first | exact Nat.le_refl _ | omega | (simp; done) | (simp; omega)) _)⟩
end Go.Proofs.Ytpmcgicopogbhaa
