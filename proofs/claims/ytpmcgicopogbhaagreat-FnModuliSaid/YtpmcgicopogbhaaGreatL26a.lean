/- Chapter 26: samples of a layout. Conditions: as stated at each contract. -/
import Derived.Test.YtpmcgicopogbhaaGreatProg
import Derived.Test.YtpmcgicopogbhaaGreatBase
import Derived.Test.YtpmcgicopogbhaaGreatZy
import Derived.Test.YtpmcgicopogbhaaGreatRw
import Derived.Test.YtpmcgicopogbhaaGreatL01
import Derived.Test.YtpmcgicopogbhaaGreatCp
import Derived.Test.YtpmcgicopogbhaaGreatL18
import Derived.Test.YtpmcgicopogbhaaGreatL23
import Derived.Test.YtpmcgicopogbhaaGreatL03
import Derived.Test.YtpmcgicopogbhaaGreatL04
import Derived.Test.YtpmcgicopogbhaaGreatL23d
import Derived.Test.YtpmcgicopogbhaaGreatL23e
import Derived.Test.YtpmcgicopogbhaaGreatL24
import Derived.Test.YtpmcgicopogbhaaGreatL24b
import Derived.Test.YtpmcgicopogbhaaGreatL24c
import Derived.Test.YtpmcgicopogbhaaGreatL24f
import Derived.Test.YtpmcgicopogbhaaGreatL24g
import Derived.Test.YtpmcgicopogbhaaGreatL24r
import Derived.WalkKit
import Derived.WalkSpells
import Derived.WalkLawsBesides
import Derived.Lib.Hide
import Derived.Deep.QuietTactic
import Derived.BigQuiet
import Derived.Deep.Draws
import Derived.Deep.RegionHeld3
namespace Go.Proofs.YtpmcgicopogbhaaGreat
set_option linter.unusedSimpArgs false
open Go.RowKit
set_option linter.unusedVariables false
/-- The code of a chart, samples and an error. -/
def lyC (C : Ch) (us vs : List (Int × Int)) (e : Int) : Int :=
  if (okCh C && okFs us && okFs vs) = true then (if (inB us.length 1 12 && inB vs.length 1 12 && inB e 0 200) = true then 0 else 2) else 1
def smB (ps : List (Int × Int)) : Bool := okFs ps && inB ps.length 1 12
theorem lyC_0 {C : Ch} {us vs : List (Int × Int)} {e : Int} (h : lyC C us vs e = 0) : okCh C = true ∧ okFs us = true ∧ okFs vs = true ∧ (1 ≤ us.length ∧ us.length ≤ 12) ∧ (1 ≤ vs.length ∧ vs.length ≤ 12) ∧ 0 ≤ e ∧ e ≤ 200 := by
  unfold lyC at h
  split at h
  · rename_i h1
    split at h
    · rename_i h2
      simp only [Bool.and_eq_true] at h1 h2
      have a := inB_iff.1 h2.1.1
      have b := inB_iff.1 h2.1.2
      have c := inB_iff.1 h2.2
      exact ⟨h1.1.1, h1.1.2, h1.2, by omega, by omega, c.1, c.2⟩
    · cases h
  · cases h
theorem l26Samples_c (A : Option Addr) (c : Nat) (ps : List (Int × Int)) (hn : ps.length ≤ 1048576) (w : World) (hA : Prs w A ps) :
    Calls Tryz.prog 128 #[.slice A ps.length c] w fun e w' => e = .returned (.tuple #[.bool (okFs ps), .bool (smB ps)]) ∧ Below w.heap.size w w' := by
  go_enter Tryz.func128, Tryz.ntmps128
  go_wp2
  go_loopw [4] (fun i wr => ∃ k : Nat, k ≤ ps.length ∧ i = .int .i64 k ∧ okFs (ps.take k) = true ∧ Below w.heap.size w wr) (fun i _ => ps.length - (intOf i).toNat)
  case atStart => exact ⟨0, Nat.zero_le _, rfl, rfl, Below.refl _ _⟩
  case round =>
    obtain ⟨k, hk, rfl, hok, hbel⟩ := hrel
    by_cases hlt : k < ps.length
    · obtain ⟨b, o, rfl, hbb, hc1, hc2⟩ := (Prs.step hbel hA).at_ k hlt
      obtain ⟨x, hx⟩ : ∃ x, x = ps[k].1 := ⟨_, rfl⟩
      obtain ⟨y, hy⟩ : ∃ y, y = ps[k].2 := ⟨_, rfl⟩
      rw [← hx] at hc1
      rw [← hy] at hc2
      have hs := hbel.size
      by_cases h1 : okF x y = true
      · have HS := Lib.hid (okFs_step hlt hok (by rw [← hx, ← hy]; exact h1))
        clear hx hy hok
        go_wp2_with (first | (go_at_call 68; refine (IsFigure_S _ _ _).mono ?_; rintro e w1 ⟨rfl, hb1⟩; obtain ⟨hc1, hf1, hz1⟩ := bel hb1; (try simp only [World.size_drew, World.cell?_drew, World.frozen?_drew, World.heap_drewN, World.cell?_drewN, World.frozen?_drewN] at hc1 hf1 hz1); (try have hl1 : w.heap.size < w1.heap.size := zl hb1); (try have hm1 : w.heap.size + 1 < w1.heap.size := zl hb1); (try have hn1 : w.heap.size + 1 + 1 < w1.heap.size := zl hb1); (try have hp1 : b < w1.heap.size := zl hb1); (try have ho1 : b' < w1.heap.size := by (have hq := hb1.size; (try simp at hq); omega))))
        go_roundw
        case rel => exact ⟨k + 1, by omega, by go_num, HS.out, by repeat (with_reducible first | exact Below.refl _ _ | assumption | refine Bel.alloc ?_ _ | refine Bel.step (by assumption) ?_ | refine Below.drew ?_ | refine Bel.drewN ?_ _ | refine Below.setCell ?_ (by first | exact Nat.le_refl _ | omega | (simp; done) | (simp; omega)) _)⟩
        case measure => simp [intOf]; omega
      · have h1' : okF x y = false := by simpa using h1
        have HF := Lib.hid (okFs_no hlt (by rw [← hx, ← hy]; exact h1'))
        clear hx hy hok h1
        go_wp2_with (first | (go_at_call 68; refine (IsFigure_S _ _ _).mono ?_; rintro e w1 ⟨rfl, hb1⟩; obtain ⟨hc1, hf1, hz1⟩ := bel hb1; (try simp only [World.size_drew, World.cell?_drew, World.frozen?_drew, World.heap_drewN, World.cell?_drewN, World.frozen?_drewN] at hc1 hf1 hz1); (try have hl1 : w.heap.size < w1.heap.size := zl hb1); (try have hm1 : w.heap.size + 1 < w1.heap.size := zl hb1); (try have hn1 : w.heap.size + 1 + 1 < w1.heap.size := zl hb1); (try have hp1 : b < w1.heap.size := zl hb1); (try have ho1 : b' < w1.heap.size := by (have hq := hb1.size; (try simp at hq); omega))))
        go_ret2
        exact ⟨by simp only [smB, HF.out]; rfl, by repeat (with_reducible first | exact Below.refl _ _ | assumption | refine Bel.alloc ?_ _ | refine Bel.step (by assumption) ?_ | refine Below.drew ?_ | refine Bel.drewN ?_ _ | refine Below.setCell ?_ (by first | exact Nat.le_refl _ | omega | (simp; done) | (simp; omega)) _)⟩
    · obtain rfl : k = ps.length := by omega
      rw [List.take_length] at hok
      have HF := Lib.hid hok
      clear hok
      go_wp2_with (first | (go_at_call 55; refine (l01In_c _ _ _ _).mono ?_; rintro e w' ⟨rfl, rfl⟩))
      go_ret2
      exact ⟨by simp only [smB, HF.out]; rfl, by repeat (with_reducible first | exact Below.refl _ _ | assumption | refine Bel.alloc ?_ _ | refine Bel.step (by assumption) ?_ | refine Below.drew ?_ | refine Bel.drewN ?_ _ | refine Below.setCell ?_ (by first | exact Nat.le_refl _ | omega | (simp; done) | (simp; omega)) _)⟩
set_option maxHeartbeats 2000000 in
theorem l26Code_c (C : Ch) (A : Option Addr) (c : Nat) (D : Option Addr) (d : Nat) (us : List (Int × Int)) (E : Option Addr) (f : Nat) (vs : List (Int × Int)) (e : Int) (hn : C.zs.length ≤ 1048576) (hm : C.nm.size ≤ 1048576) (hu : us.length ≤ 1048576) (hv : vs.length ≤ 1048576) (w : World) (hA : Ints w A C.zs) (hD : Prs w D us) (hE : Prs w E vs) :
    Calls Tryz.prog 86 #[.agg #[.int .i64 C.dg, .int .i64 C.tn, .string C.nm, .slice A C.zs.length c, .int .i64 C.wd, .int .i64 C.lf, .int .i64 C.rt], .slice D us.length d, .slice E vs.length f, .int .i64 e] w fun r w' => r = .returned (.int .i64 (lyC C us vs e)) ∧ Below w.heap.size w w' := by
  have HI := Lib.hid hA
  have HD := Lib.hid hD
  have HE := Lib.hid hE
  clear hA hD hE
  go_enter Tryz.func86, Tryz.ntmps86
  go_wp2_with fail
  go_at_call 128; refine (l26Samples_c _ _ us hu _ (by repeat (with_reducible first | exact HD.out | assumption | refine Prs.drew ?_ | refine Prs.drewN _ ?_ | refine Prs.alloc _ ?_ | refine Prs.step (by assumption) ?_))).mono ?_; rintro r w1 ⟨rfl, hb1⟩
  have HC1 : Blk w1 w.heap.size 30 #[.int .i64 C.dg, .int .i64 C.tn, .string C.nm, .slice A C.zs.length c, .int .i64 C.wd, .int .i64 C.lf, .int .i64 C.rt] := Blk.step hb1 (Blk.new _ _ _)
  have hbel1 : Below w.heap.size w w1 := by repeat (with_reducible first | exact Below.refl _ _ | assumption | refine Bel.alloc ?_ _ | refine Bel.step (by assumption) ?_ | refine Below.drew ?_ | refine Bel.drewN ?_ _ | refine Below.setCell ?_ (by first | exact Nat.le_refl _ | omega | (simp; done) | (simp; omega)) _)
  clear hb1
  go_wp2_with fail
  go_at_call 128; refine (l26Samples_c _ _ vs hv _ (by repeat (with_reducible first | exact HE.out | assumption | refine Prs.drew ?_ | refine Prs.drewN _ ?_ | refine Prs.alloc _ ?_ | refine Prs.step (by assumption) ?_))).mono ?_; rintro r w2 ⟨rfl, hb2⟩
  have HC2 : Blk w2 w.heap.size 30 #[.int .i64 C.dg, .int .i64 C.tn, .string C.nm, .slice A C.zs.length c, .int .i64 C.wd, .int .i64 C.lf, .int .i64 C.rt] := Blk.step hb2 HC1
  have hbel2 : Below w.heap.size w w2 := by repeat (with_reducible first | exact Below.refl _ _ | assumption | refine Bel.alloc ?_ _ | refine Bel.step (by assumption) ?_ | refine Below.drew ?_ | refine Bel.drewN ?_ _ | refine Below.setCell ?_ (by first | exact Nat.le_refl _ | omega | (simp; done) | (simp; omega)) _)
  clear hb2 HC1
  have p0 : w2.cell? ⟨w.heap.size, 0, none⟩ = some (.int .i64 C.dg) := by rw [HC2.cell]; rfl
  have p1 : w2.cell? ⟨w.heap.size, 1, none⟩ = some (.int .i64 C.tn) := by rw [HC2.cell]; rfl
  have p2 : w2.cell? ⟨w.heap.size, 2, none⟩ = some (.string C.nm) := by rw [HC2.cell]; rfl
  have p3 : w2.cell? ⟨w.heap.size, 3, none⟩ = some (.slice A C.zs.length c) := by rw [HC2.cell]; rfl
  have p4 : w2.cell? ⟨w.heap.size, 4, none⟩ = some (.int .i64 C.wd) := by rw [HC2.cell]; rfl
  have p5 : w2.cell? ⟨w.heap.size, 5, none⟩ = some (.int .i64 C.lf) := by rw [HC2.cell]; rfl
  have p6 : w2.cell? ⟨w.heap.size, 6, none⟩ = some (.int .i64 C.rt) := by rw [HC2.cell]; rfl
  clear HC2
  go_wp2_with fail
  go_at_call 54; refine (IsChart_S _ _ _ hn hm _ (by repeat (with_reducible first | exact HI.out | assumption | refine Ints.drew ?_ | refine Ints.drewN _ ?_ | refine Ints.alloc _ ?_ | refine Ints.step (by assumption) ?_))).mono ?_; rintro e w3 ⟨rfl, hb3⟩; obtain ⟨hc3, hf3, hz3⟩ := bel hb3; (try simp only [World.size_drew, World.cell?_drew, World.frozen?_drew, World.heap_drewN, World.cell?_drewN, World.frozen?_drewN] at hc3 hf3 hz3); (try have hl3 : w.heap.size < w3.heap.size := zl hb3); (try have hm3 : w.heap.size + 1 < w3.heap.size := zl hb3); (try have hn3 : w.heap.size + 1 + 1 < w3.heap.size := zl hb3); (try have hp3 : b < w3.heap.size := zl hb3); (try have ho3 : b' < w3.heap.size := by (have hq := hb3.size; (try simp at hq); omega))
  have hbel3 : Below w.heap.size w w3 := by repeat (with_reducible first | exact Below.refl _ _ | assumption | refine Bel.alloc ?_ _ | refine Bel.step (by assumption) ?_ | refine Below.drew ?_ | refine Bel.drewN ?_ _ | refine Below.setCell ?_ (by first | exact Nat.le_refl _ | omega | (simp; done) | (simp; omega)) _)
  clear hb3 hc3 hf3 hz3 p0 p1 p2 p3 p4 p5 p6
  have HU := Lib.hid (show lyC C us vs e = if (okCh C && okFs us && okFs vs) = true then (if (inB us.length 1 12 && inB vs.length 1 12 && inB e 0 200) = true then 0 else 2) else 1 from rfl)
  cases hx : okCh C
  · have HX := Lib.hid hx
    clear hx
    go_wp2
    go_ret
    exact ⟨ret_int (by rw [HU.out, HX.out]; rfl), by repeat (with_reducible first | exact Below.refl _ _ | assumption | refine Bel.alloc ?_ _ | refine Bel.step (by assumption) ?_ | refine Below.drew ?_ | refine Bel.drewN ?_ _ | refine Below.setCell ?_ (by first | exact Nat.le_refl _ | omega | (simp; done) | (simp; omega)) _)⟩
  have H1 := Lib.hid hx
  clear hx
  cases hx : okFs us
  · have HX := Lib.hid hx
    clear hx
    go_wp2
    go_ret
    exact ⟨ret_int (by rw [HU.out, HX.out, H1.out]; rfl), by repeat (with_reducible first | exact Below.refl _ _ | assumption | refine Bel.alloc ?_ _ | refine Bel.step (by assumption) ?_ | refine Below.drew ?_ | refine Bel.drewN ?_ _ | refine Below.setCell ?_ (by first | exact Nat.le_refl _ | omega | (simp; done) | (simp; omega)) _)⟩
  have H2 := Lib.hid hx
  clear hx
  cases hx : okFs vs
  · have HX := Lib.hid hx
    clear hx
    go_wp2
    go_ret
    exact ⟨ret_int (by rw [HU.out, HX.out, H1.out, H2.out]; rfl), by repeat (with_reducible first | exact Below.refl _ _ | assumption | refine Bel.alloc ?_ _ | refine Bel.step (by assumption) ?_ | refine Below.drew ?_ | refine Bel.drewN ?_ _ | refine Below.setCell ?_ (by first | exact Nat.le_refl _ | omega | (simp; done) | (simp; omega)) _)⟩
  have H3 := Lib.hid hx
  clear hx
  have G1 := Lib.hid (show smB us = inB us.length 1 12 by rw [smB, H2.out]; rfl)
  have G2 := Lib.hid (show smB vs = inB vs.length 1 12 by rw [smB, H3.out]; rfl)
  cases hx : smB us
  · have HX := Lib.hid hx
    clear hx
    go_wp2
    go_ret
    exact ⟨ret_int (by rw [HU.out, H1.out, H2.out, H3.out, ← G1.out, HX.out]; rfl), by repeat (with_reducible first | exact Below.refl _ _ | assumption | refine Bel.alloc ?_ _ | refine Bel.step (by assumption) ?_ | refine Below.drew ?_ | refine Bel.drewN ?_ _ | refine Below.setCell ?_ (by first | exact Nat.le_refl _ | omega | (simp; done) | (simp; omega)) _)⟩
  have H4 := Lib.hid hx
  clear hx
  cases hx : smB vs
  · have HX := Lib.hid hx
    clear hx
    go_wp2
    go_ret
    exact ⟨ret_int (by rw [HU.out, H1.out, H2.out, H3.out, ← G1.out, ← G2.out, H4.out, HX.out]; rfl), by repeat (with_reducible first | exact Below.refl _ _ | assumption | refine Bel.alloc ?_ _ | refine Bel.step (by assumption) ?_ | refine Below.drew ?_ | refine Bel.drewN ?_ _ | refine Below.setCell ?_ (by first | exact Nat.le_refl _ | omega | (simp; done) | (simp; omega)) _)⟩
  have H5 := Lib.hid hx
  clear hx
  go_wp2_with fail
  go_at_call 55; refine (l01In_c _ _ _ _).mono ?_; rintro e w' ⟨rfl, rfl⟩
  cases hx : inB e 0 200
  · have HX := Lib.hid hx
    clear hx
    go_wp2
    go_ret
    exact ⟨ret_int (by rw [HU.out, H1.out, H2.out, H3.out, ← G1.out, ← G2.out, H4.out, H5.out, HX.out]; rfl), by repeat (with_reducible first | exact Below.refl _ _ | assumption | refine Bel.alloc ?_ _ | refine Bel.step (by assumption) ?_ | refine Below.drew ?_ | refine Bel.drewN ?_ _ | refine Below.setCell ?_ (by first | exact Nat.le_refl _ | omega | (simp; done) | (simp; omega)) _)⟩
  · have HX := Lib.hid hx
    clear hx
    go_wp2
    go_ret
    exact ⟨ret_int (by rw [HU.out, H1.out, H2.out, H3.out, ← G1.out, ← G2.out, H4.out, H5.out, HX.out]; rfl), by repeat (with_reducible first | exact Below.refl _ _ | assumption | refine Bel.alloc ?_ _ | refine Bel.step (by assumption) ?_ | refine Below.drew ?_ | refine Bel.drewN ?_ _ | refine Below.setCell ?_ (by first | exact Nat.le_refl _ | omega | (simp; done) | (simp; omega)) _)⟩
set_option maxHeartbeats 2000000 in
theorem checkSamples_c (C : Ch) (A : Option Addr) (c : Nat) (D : Option Addr) (d : Nat) (us : List (Int × Int)) (E : Option Addr) (f : Nat) (vs : List (Int × Int)) (e : Int) (hn : C.zs.length ≤ 1048576) (hm : C.nm.size ≤ 1048576) (hu : us.length ≤ 1048576) (hv : vs.length ≤ 1048576) (w : World) (hA : Ints w A C.zs) (hD : Prs w D us) (hE : Prs w E vs) :
    Calls Tryz.prog 80 #[.agg #[.int .i64 C.dg, .int .i64 C.tn, .string C.nm, .slice A C.zs.length c, .int .i64 C.wd, .int .i64 C.lf, .int .i64 C.rt], .slice D us.length d, .slice E vs.length f, .int .i64 e] w fun r w' => r = .returned (.int .i64 (lyC C us vs e)) ∧ Below w.heap.size w w' := by
  have HI := Lib.hid hA
  have HD := Lib.hid hD
  have HE := Lib.hid hE
  clear hA hD hE
  have HU := Lib.hid (show lyC C us vs e = if (okCh C && okFs us && okFs vs) = true then (if (inB us.length 1 12 && inB vs.length 1 12 && inB e 0 200) = true then 0 else 2) else 1 from rfl)
  go_enter Tryz.func80, Tryz.ntmps80
  go_wp2_with fail
  go_at_call 69; refine (IsChart_I _ _ _ hn hm _ (by repeat (with_reducible first | exact HI.out | assumption | refine Ints.drew ?_ | refine Ints.drewN _ ?_ | refine Ints.alloc _ ?_ | refine Ints.step (by assumption) ?_))).mono ?_; rintro e w1 ⟨rfl, hb1⟩; obtain ⟨hc1, hf1, hz1⟩ := bel hb1; (try simp only [World.size_drew, World.cell?_drew, World.frozen?_drew, World.heap_drewN, World.cell?_drewN, World.frozen?_drewN] at hc1 hf1 hz1); (try have hl1 : w.heap.size < w1.heap.size := zl hb1); (try have hm1 : w.heap.size + 1 < w1.heap.size := zl hb1); (try have hn1 : w.heap.size + 1 + 1 < w1.heap.size := zl hb1); (try have hp1 : b < w1.heap.size := zl hb1); (try have ho1 : b' < w1.heap.size := by (have hq := hb1.size; (try simp at hq); omega))
  have hbel1 : Below w.heap.size w w1 := by repeat (with_reducible first | exact Below.refl _ _ | assumption | refine Bel.alloc ?_ _ | refine Bel.step (by assumption) ?_ | refine Below.drew ?_ | refine Bel.drewN ?_ _ | refine Below.setCell ?_ (by first | exact Nat.le_refl _ | omega | (simp; done) | (simp; omega)) _)
  clear hb1 hc1 hf1 hz1
  cases hx : okCh C
  · have HX := Lib.hid hx
    clear hx
    go_wp2
    go_ret
    exact ⟨ret_int (by rw [HU.out, HX.out]; rfl), by repeat (with_reducible first | exact Below.refl _ _ | assumption | refine Bel.alloc ?_ _ | refine Bel.step (by assumption) ?_ | refine Below.drew ?_ | refine Bel.drewN ?_ _ | refine Below.setCell ?_ (by first | exact Nat.le_refl _ | omega | (simp; done) | (simp; omega)) _)⟩
  have H1 := Lib.hid hx
  clear hx
  go_wp2_with fail
  go_at_call 70; refine (areFigures_c _ _ us hu _ (by repeat (with_reducible first | exact HD.out | assumption | refine Prs.drew ?_ | refine Prs.drewN _ ?_ | refine Prs.alloc _ ?_ | refine Prs.step (by assumption) ?_))).mono ?_; rintro r w2 ⟨rfl, hb2⟩
  have hbel2 : Below w.heap.size w w2 := by repeat (with_reducible first | exact Below.refl _ _ | assumption | refine Bel.alloc ?_ _ | refine Bel.step (by assumption) ?_ | refine Below.drew ?_ | refine Bel.drewN ?_ _ | refine Below.setCell ?_ (by first | exact Nat.le_refl _ | omega | (simp; done) | (simp; omega)) _)
  clear hb2
  cases hx : okFs us
  · have HX := Lib.hid hx
    clear hx
    go_wp2
    go_ret
    exact ⟨ret_int (by rw [HU.out, HX.out, H1.out]; rfl), by repeat (with_reducible first | exact Below.refl _ _ | assumption | refine Bel.alloc ?_ _ | refine Bel.step (by assumption) ?_ | refine Below.drew ?_ | refine Bel.drewN ?_ _ | refine Below.setCell ?_ (by first | exact Nat.le_refl _ | omega | (simp; done) | (simp; omega)) _)⟩
  have H2 := Lib.hid hx
  clear hx
  go_wp2_with fail
  go_at_call 70; refine (areFigures_c _ _ vs hv _ (by repeat (with_reducible first | exact HE.out | assumption | refine Prs.drew ?_ | refine Prs.drewN _ ?_ | refine Prs.alloc _ ?_ | refine Prs.step (by assumption) ?_))).mono ?_; rintro r w3 ⟨rfl, hb3⟩
  have hbel3 : Below w.heap.size w w3 := by repeat (with_reducible first | exact Below.refl _ _ | assumption | refine Bel.alloc ?_ _ | refine Bel.step (by assumption) ?_ | refine Below.drew ?_ | refine Bel.drewN ?_ _ | refine Below.setCell ?_ (by first | exact Nat.le_refl _ | omega | (simp; done) | (simp; omega)) _)
  clear hb3
  cases hx : okFs vs
  · have HX := Lib.hid hx
    clear hx
    go_wp2
    go_ret
    exact ⟨ret_int (by rw [HU.out, HX.out, H1.out, H2.out]; rfl), by repeat (with_reducible first | exact Below.refl _ _ | assumption | refine Bel.alloc ?_ _ | refine Bel.step (by assumption) ?_ | refine Below.drew ?_ | refine Bel.drewN ?_ _ | refine Below.setCell ?_ (by first | exact Nat.le_refl _ | omega | (simp; done) | (simp; omega)) _)⟩
  have H3 := Lib.hid hx
  clear hx
  go_wp2_with fail
  go_at_call 71; refine (within_c _ _ _ _).mono ?_; rintro e w' ⟨rfl, rfl⟩
  cases hx : inB e 0 200
  · have HX := Lib.hid hx
    clear hx
    go_wp2
    go_ret
    exact ⟨ret_int (by rw [HU.out, H1.out, H2.out, H3.out, HX.out, Bool.and_false]; rfl), by repeat (with_reducible first | exact Below.refl _ _ | assumption | refine Bel.alloc ?_ _ | refine Bel.step (by assumption) ?_ | refine Below.drew ?_ | refine Bel.drewN ?_ _ | refine Below.setCell ?_ (by first | exact Nat.le_refl _ | omega | (simp; done) | (simp; omega)) _)⟩
  have H4 := Lib.hid hx
  clear hx
  by_cases l1 : us.length < 1
  · have HX := Lib.hid (show inB us.length 1 12 = false by rw [inB_not]; omega)
    go_wp2
    go_ret
    exact ⟨ret_int (by rw [HU.out, H1.out, H2.out, H3.out, HX.out]; rfl), by repeat (with_reducible first | exact Below.refl _ _ | assumption | refine Bel.alloc ?_ _ | refine Bel.step (by assumption) ?_ | refine Below.drew ?_ | refine Bel.drewN ?_ _ | refine Below.setCell ?_ (by first | exact Nat.le_refl _ | omega | (simp; done) | (simp; omega)) _)⟩
  by_cases l2 : 12 < us.length
  · have HX := Lib.hid (show inB us.length 1 12 = false by rw [inB_not]; omega)
    go_wp2
    go_ret
    exact ⟨ret_int (by rw [HU.out, H1.out, H2.out, H3.out, HX.out]; rfl), by repeat (with_reducible first | exact Below.refl _ _ | assumption | refine Bel.alloc ?_ _ | refine Bel.step (by assumption) ?_ | refine Below.drew ?_ | refine Bel.drewN ?_ _ | refine Below.setCell ?_ (by first | exact Nat.le_refl _ | omega | (simp; done) | (simp; omega)) _)⟩
  have H5 := Lib.hid (show inB us.length 1 12 = true by rw [inB_iff]; omega)
  by_cases l3 : vs.length < 1
  · have HX := Lib.hid (show inB vs.length 1 12 = false by rw [inB_not]; omega)
    go_wp2
    go_ret
    exact ⟨ret_int (by rw [HU.out, H1.out, H2.out, H3.out, H5.out, HX.out]; rfl), by repeat (with_reducible first | exact Below.refl _ _ | assumption | refine Bel.alloc ?_ _ | refine Bel.step (by assumption) ?_ | refine Below.drew ?_ | refine Bel.drewN ?_ _ | refine Below.setCell ?_ (by first | exact Nat.le_refl _ | omega | (simp; done) | (simp; omega)) _)⟩
  by_cases l4 : 12 < vs.length
  · have HX := Lib.hid (show inB vs.length 1 12 = false by rw [inB_not]; omega)
    go_wp2
    go_ret
    exact ⟨ret_int (by rw [HU.out, H1.out, H2.out, H3.out, H5.out, HX.out]; rfl), by repeat (with_reducible first | exact Below.refl _ _ | assumption | refine Bel.alloc ?_ _ | refine Bel.step (by assumption) ?_ | refine Below.drew ?_ | refine Bel.drewN ?_ _ | refine Below.setCell ?_ (by first | exact Nat.le_refl _ | omega | (simp; done) | (simp; omega)) _)⟩
  · have HX := Lib.hid (show inB vs.length 1 12 = true by rw [inB_iff]; omega)
    go_wp2
    go_ret
    exact ⟨ret_int (by rw [HU.out, H1.out, H2.out, H3.out, H4.out, H5.out, HX.out]; rfl), by repeat (with_reducible first | exact Below.refl _ _ | assumption | refine Bel.alloc ?_ _ | refine Bel.step (by assumption) ?_ | refine Below.drew ?_ | refine Bel.drewN ?_ _ | refine Below.setCell ?_ (by first | exact Nat.le_refl _ | omega | (simp; done) | (simp; omega)) _)⟩
end Go.Proofs.YtpmcgicopogbhaaGreat
