/- The statements' own helpers: copies of arguments, comparisons, marks. Conditions: lengths of at most 2^20. -/
import Derived.Test.YtkhcepkcdfpofaaProg
import Derived.Test.YtkhcepkcdfpofaaBase
import Derived.WalkKit
import Derived.WalkSpells
import Derived.WalkLawsBesides
import Derived.Lib.Hide
import Derived.Deep.QuietTactic
import Derived.BigQuiet
import Derived.Deep.Draws
import Derived.Deep.RegionHeld3
namespace Go.Proofs.Ytkhcepkcdfpofaa
open Go.RowKit
set_option linter.unusedVariables false

theorem info64 : (Try.prog.info? 2).map (fun i => (i.zero, i.size, i.bytes)) = some (some (.int .i64 0), 1, 8) := by kernel_rfl
theorem mk64 (n : Nat) (hn : n ≤ 1048576) (W : World) : (Instr.makeSlice 24 (.int .i64 (n : Int)) (.int .i64 (n : Int))).run Try.prog W = .ok (.slice (some ⟨W.heap.size, 0, none⟩) n n) (W.alloc (.cells (icells (List.replicate n 0)) 2)) := by
  obtain ⟨i0, hi, hz0, hz1, hz2⟩ := info_parts info64
  have h := run_make (P := Try.prog) W 24 2 i0 _ Try.underlying24 hi hz0 .i64 .i64 n n (by omega) (by omega) (by rw [hz2]; omega) (by omega)
  simp only [Int.toNat_natCast, hz1] at h
  rw [← cells_zero]
  exact h
theorem toInt64S_c (A : Option Addr) (c : Nat) (zs : List Int) (hn : zs.length ≤ 1048576) (w : World) (hA : Ints w A zs) :
    Calls Try.prog 43 #[.slice A zs.length c] w fun e w' => e = .returned (.slice (some ⟨w.heap.size, 0, none⟩) zs.length zs.length) ∧ Blk w' w.heap.size 2 (icells zs) ∧ Below w.heap.size w w' := by
  have hmk := mk64 zs.length hn
  go_enter Try.func43, Try.ntmps43
  go_wp2
  go_loopw [4] (fun i wr => ∃ k : Nat, k ≤ zs.length ∧ i = .int .i64 k ∧ Blk wr w.heap.size 2 (icells (zs.take k ++ List.replicate (zs.length - k) 0)) ∧ Below w.heap.size w wr) (fun i _ => zs.length - (intOf i).toNat)
  case atStart => exact ⟨0, Nat.zero_le _, rfl, by simpa using Blk.new _ _ _, Bel.alloc (Below.refl _ _) _⟩
  case round =>
    obtain ⟨k, hk, rfl, hB, hbel⟩ := hrel
    by_cases hlt : k < zs.length
    · have hI := Ints.step hbel hA
      obtain ⟨b, o, rfl, hbb, hc⟩ := hI.at_ k hlt
      have hBc : wr.cell? ⟨w.heap.size, k, none⟩ = some (.int .i64 ((zs.take k ++ List.replicate (zs.length - k) 0).getD k 0)) := by
        rw [hB.cell, icells_get _ _ (by simp; omega)]
      have hBf := hB.frozen k
      have hS := hB.set_ k (.int .i64 (zs.getD k 0))
      rw [icells_set, take_set_step zs _ k hlt rfl] at hS
      have HS := Lib.hid hS
      have e : zs.getD k 0 = zs[k] := getD_at _ _ _ hlt
      rw [e] at HS
      clear hS e
      go_wp2
      exact ⟨⟨k + 1, by omega, by go_num, HS.out, hbel.setCell (Nat.le_refl _) _⟩, by simp [intOf]; omega⟩
    · have e : k = zs.length := by omega
      subst e
      have HS : Hid (Blk wr w.heap.size 2 (icells zs)) := by
        have := hB
        rw [Nat.sub_self, List.replicate_zero, List.append_nil, List.take_length] at this
        exact this
      clear hB
      go_wp2
      go_ret
      exact ⟨rfl, HS.out, hbel⟩
theorem eqInt64S_c (A B : Option Addr) (c d : Nat) (xs ys : List Int) (hx : xs.length ≤ 1048576) (hy : ys.length ≤ 1048576) (w : World) (hA : Ints w A xs) (hB : Ints w B ys) :
    Calls Try.prog 45 #[.slice A xs.length c, .slice B ys.length d] w fun e w' => e = .returned (.bool (eqL xs ys)) ∧ ∃ n, w' = w.drewN n := by
  by_cases hl : xs.length = ys.length
  · have H := Lib.hid hl
    have b0 : ((xs.length : Int) != (ys.length : Int)) = false := by simp [hl]
    clear hl
    go_enter Try.func45, Try.ntmps45
    go_wp2
    go_loopw [5] (fun i wr => ∃ k : Nat, k ≤ xs.length ∧ i = .int .i64 k ∧ Agree 0 xs ys k ∧ ∃ n, wr = w.drewN n) (fun i _ => xs.length - (intOf i).toNat)
    case atStart => exact ⟨0, Nat.zero_le _, rfl, Agree.zero _ _ _, 0, rfl⟩
    case round =>
      obtain ⟨k, hk, rfl, hag, n, rfl⟩ := hrel
      have HA := Lib.hid hag
      clear hag
      by_cases hlt : k < xs.length
      · have hlt2 : k < ys.length := by have := H.out; omega
        obtain ⟨b, o, rfl, hbb, hc⟩ := hA.at_ k hlt
        obtain ⟨b', o', rfl, hbb', hc'⟩ := hB.at_ k hlt2
        by_cases he : xs[k] = ys[k]
        · have HE := Lib.hid he
          have b1 : (xs[k] != ys[k]) = false := by simp [he]
          clear he
          go_wp2
          go_quiet (fail)
          go_wp2
          go_roundw
          case rel => exact ⟨k + 1, by omega, by go_num, HA.out.succ (by rw [getD_at _ _ _ hlt, getD_at _ _ _ hlt2]; exact HE.out), _, rfl⟩
          case measure => simp [intOf]; omega
        · have b1 : (xs[k] != ys[k]) = true := by simp [he]
          have HE := Lib.hid he
          clear he
          go_wp2
          go_quiet (fail)
          go_wp2
          go_ret
          refine ⟨ret_bool ?_, _, World.drewN_drewN _ _ _⟩
          have : xs ≠ ys := by rintro rfl; exact HE.out rfl
          simp [eqL, this]
      · have e : k = xs.length := by omega
        subst e
        go_wp2
        go_ret
        refine ⟨ret_bool ?_, n, rfl⟩
        simp [eqL, HA.out.all H.out]
  · have b0 : ((xs.length : Int) != (ys.length : Int)) = true := by simp; omega
    go_enter Try.func45, Try.ntmps45
    go_wp2
    go_ret
    refine ⟨ret_bool ?_, 0, rfl⟩
    have : xs ≠ ys := by rintro rfl; exact hl rfl
    simp [eqL, this]
theorem markInt64S_c (v : Value) (L : List Int) (B : Nat) (k0 : Int) (h0 : 0 ≤ k0) (h1 : k0 ≤ 100000000) (hx : L.length ≤ 10000000) (w : World) (hO : Own w B 2 v L) :
    Calls Try.prog 157 #[v, .int .i64 k0] w fun e w' => e = .returned (.int .i64 (k0 + L.length)) ∧ Own w' B 2 v (marks L.length k0) ∧ w.grownBy w' v.ownBlock := by
  obtain ⟨A, c, rfl, hcc, hcm, hI, hF⟩ := hO.form
  by_cases hz : L.length = 0
  · have hL : L = [] := List.eq_nil_of_length_eq_zero hz
    subst hL
    go_enter Try.func157, Try.ntmps157
    go_wp2
    go_loop [1, 5] (fun kk i => i = .int .i64 0 ∧ kk = .int .i64 k0) (fun _ _ => 0)
    case atStart => exact ⟨rfl, rfl⟩
    case round =>
      obtain ⟨rfl, rfl⟩ := hrel
      go_wp2
      go_ret
      exact ⟨ret_int (by simp), by simpa [marks] using hO, World.grownBy.refl w _⟩
  · obtain ⟨g, cur, rfl, hBg, hB, hs, ht⟩ := hF (by omega)
    generalize hn : L.length = n at *
    clear hI hF hz ht hO
    go_enter Try.func157, Try.ntmps157
    go_wp2
    go_loopw [1, 5] (fun kk i wr => ∃ (k : Nat) (cu : Array Value), k ≤ n ∧ i = .int .i64 k ∧ kk = .int .i64 (k0 + k) ∧ Blk wr g 2 cu ∧ cu.size = c ∧ Hid (cu.toList.take k = (marks k k0).map (Value.int .i64)) ∧ w.grownBy wr (some g)) (fun _ i _ => n - (intOf i).toNat)
    case atStart => exact ⟨0, cur, Nat.zero_le _, rfl, by simp, hB, hs, by simp [marks, Hid], World.grownBy.refl w _⟩
    case round =>
      obtain ⟨k, cu, hk, rfl, rfl, hBk, hsz, hT, hg⟩ := hrel
      by_cases hlt : k < n
      · have hlt2 : k < cu.size := by omega
        have hBc : wr.cell? ⟨g, k, none⟩ = some cu[k] := by rw [hBk.cell, Array.getElem?_eq_getElem hlt2]
        have hBf := hBk.frozen k
        have HS := Lib.hid (hBk.set_ k (.int .i64 (k0 + k)))
        have hsz2 := Lib.hid (show (cu.setIfInBounds k (.int .i64 (k0 + k))).size = c by simpa using hsz)
        have hT2 := Lib.hid (show (cu.setIfInBounds k (.int .i64 (k0 + k))).toList.take (k + 1) = (marks (k + 1) k0).map (Value.int .i64) by rw [set_take _ _ _ hlt2, hT.out, marks_succ, List.map_append]; rfl)
        clear hBk hsz
        go_wp2
        go_roundw
        case rel => exact ⟨k + 1, _, by omega, by go_num, by go_num, HS.out, hsz2.out, hT2, grown_set hg _⟩
        case measure => simp [intOf]; omega
      · have e : k = n := by omega
        subst e
        have HO : Hid (Own wr B 2 (.slice (some ⟨g, 0, none⟩) k c) (marks k k0)) := by
          refine ⟨by simp [marks_len], .inr ⟨g, c, cu, by rw [marks_len], hBg, hBk, by rw [marks_len]; omega, hcm, by omega, ?_⟩⟩
          rw [marks_len, Nat.mul_one]; exact hT.out
        clear hBk hsz hT
        go_wp2
        go_ret
        exact ⟨rfl, HO.out, hg⟩
theorem heldInt64S_c (v : Value) (n B : Nat) (k0 : Int) (h0 : 0 ≤ k0) (h1 : k0 ≤ 100000000) (hx : n ≤ 10000000) (w : World) (hO : Own w B 2 v (marks n k0)) :
    Calls Try.prog 158 #[v, .int .i64 k0] w fun e w' => e = .returned (.int .i64 (k0 + n)) ∧ w = w' := by
  obtain ⟨A, c, rfl, hcc, hcm, hI, hF⟩ := hO.form
  have hml := marks_len n k0
  rw [hml] at hcc
  have HI := Lib.hid hI
  clear hO hF hI
  rw [hml]
  clear hml
  go_enter Try.func158, Try.ntmps158
  go_wp2
  go_loop [1, 5] (fun kk i => ∃ k : Nat, k ≤ n ∧ i = .int .i64 k ∧ kk = .int .i64 (k0 + k)) (fun _ i => n - (intOf i).toNat)
  case atStart => exact ⟨0, Nat.zero_le _, rfl, by simp⟩
  case round =>
    obtain ⟨k, hk, rfl, rfl⟩ := hrel
    by_cases hlt : k < n
    · obtain ⟨b, o, rfl, hbb, hc⟩ := HI.out.at_ k (by rw [marks_len]; exact hlt)
      rw [← getD_at 0 _ _ (by rw [marks_len]; exact hlt), marks_at _ _ _ hlt] at hc
      have b1 : ((k0 + (k : Int)) != (k0 + (k : Int))) = false := by simp
      go_wp2
      go_round
      case rel => exact ⟨k + 1, by omega, by go_num, by go_num⟩
      case measure => simp [intOf]; omega
    · have e : k = n := by omega
      subst e
      go_wp2
      go_ret
      exact ⟨rfl, rfl⟩
theorem toModel_c (a b : Int) (w : World) :
    Calls Try.prog 47 #[.agg #[.int .i64 a, .int .i64 b]] w fun e w' => e = .returned (.agg #[.int .i64 a, .int .i64 b]) ∧ Below w.heap.size w w' := by
  go_enter Try.func47, Try.ntmps47
  go_wp2
  refine bodyPost_ret (v := .agg #[.int .i64 a, .int .i64 b]) (by simp [results, Try.results47, go_sem]) rfl ⟨rfl, ?_⟩
  repeat (first | exact Below.refl _ _ | refine Bel.alloc ?_ _)
theorem toFigure_c (a b : Int) (w : World) :
    Calls Try.prog 30 #[.agg #[.int .i64 a, .int .i64 b]] w fun e w' => e = .returned (.agg #[.int .i64 a, .int .i64 b]) ∧ Below w.heap.size w w' := by
  go_enter Try.func30, Try.ntmps30
  go_wp2
  refine bodyPost_ret (v := .agg #[.int .i64 a, .int .i64 b]) (by simp [results, Try.results30, go_sem]) rfl ⟨rfl, ?_⟩
  repeat (first | exact Below.refl _ _ | refine Bel.alloc ?_ _)
theorem eqFigure_c (a b c d : Int) (w : World) :
    Calls Try.prog 41 #[.agg #[.int .i64 a, .int .i64 b], .agg #[.int .i64 c, .int .i64 d]] w fun e w' => e = .returned (.bool (eqP (a, b) (c, d))) ∧ Below w.heap.size w w' := by
  by_cases h1 : a = c
  · have b1 : (a != c) = false := by simp [h1]
    by_cases h2 : b = d
    · have b2 : (b != d) = false := by simp [h2]
      have H := Lib.hid (And.intro h1 h2)
      clear h1 h2
      go_enter Try.func41, Try.ntmps41
      go_wp2
      go_ret
      refine ⟨ret_bool (by simp [eqP, H.out.1, H.out.2]), ?_⟩
      repeat (first | exact Below.refl _ _ | refine Bel.alloc ?_ _ | refine Bel.drewN ?_ _ | refine Below.drew ?_)
    · have b2 : (b != d) = true := by simp [h2]
      have H := Lib.hid (And.intro h1 h2)
      clear h1 h2
      go_enter Try.func41, Try.ntmps41
      go_wp2
      go_ret
      refine ⟨ret_bool (by simp [eqP, H.out.2]), ?_⟩
      repeat (first | exact Below.refl _ _ | refine Bel.alloc ?_ _ | refine Bel.drewN ?_ _ | refine Below.drew ?_)
  · have b1 : (a != c) = true := by simp [h1]
    have H := Lib.hid h1
    clear h1
    go_enter Try.func41, Try.ntmps41
    go_wp2
    go_ret
    refine ⟨ret_bool (by simp [eqP, H.out]), ?_⟩
    repeat (first | exact Below.refl _ _ | refine Bel.alloc ?_ _ | refine Bel.drewN ?_ _ | refine Below.drew ?_)
theorem mkFigure (n : Nat) (hn : n ≤ 1048576) (W : World) : (Instr.makeSlice 40 (.int .i64 (n : Int)) (.int .i64 (n : Int))).run Try.prog W = .ok (.slice (some ⟨W.heap.size, 0, none⟩) n n) (W.alloc (.cells (icells (flat (List.replicate n (0, 0)))) 34)) := by
  obtain ⟨i0, hi, hz0, hz1, hz2⟩ := info_parts (show (Try.prog.info? 34).map (fun i => (i.zero, i.size, i.bytes)) = some (some (.agg #[.int .i64 0, .int .i64 0]), 2, 16) by kernel_rfl)
  have h := run_make (P := Try.prog) W 40 34 i0 _ Try.underlying40 hi hz0 .i64 .i64 n n (by omega) (by omega) (by rw [hz2]; omega) (by omega)
  simp only [Int.toNat_natCast, hz1] at h
  rw [← cells_zero2]
  exact h
theorem toFigureS_c (A : Option Addr) (c : Nat) (zs : List (Int × Int)) (hn : zs.length ≤ 1048576) (w : World) (hA : Prs w A zs) :
    Calls Try.prog 17 #[.slice A zs.length c] w fun e w' => e = .returned (.slice (some ⟨w.heap.size, 0, none⟩) zs.length zs.length) ∧ Blk w' w.heap.size 34 (icells (flat zs)) ∧ Below w.heap.size w w' := by
  have hmk := mkFigure zs.length hn
  go_enter Try.func17, Try.ntmps17
  go_wp2
  go_loopw [4] (fun i wr => ∃ k : Nat, k ≤ zs.length ∧ i = .int .i64 k ∧ Blk wr w.heap.size 34 (icells (flat (zs.take k ++ List.replicate (zs.length - k) (0, 0)))) ∧ Below w.heap.size w wr) (fun i _ => zs.length - (intOf i).toNat)
  case atStart => exact ⟨0, Nat.zero_le _, rfl, by simpa using Blk.new _ _ _, Bel.alloc (Below.refl _ _) _⟩
  case round =>
    obtain ⟨k, hk, rfl, hB, hbel⟩ := hrel
    by_cases hlt : k < zs.length
    · have hI := Prs.step hbel hA
      obtain ⟨b, o, rfl, hbb, hc1, hc2⟩ := hI.at_ k hlt
      have hBc1 : wr.cell? ⟨w.heap.size, k * 2, none⟩ = some (.int .i64 ((flat (zs.take k ++ List.replicate (zs.length - k) (0, 0))).getD (k * 2) 0)) := by
        rw [hB.cell, icells_get _ _ (by rw [flat_len]; simp; omega)]
      have hBc2 : wr.cell? ⟨w.heap.size, k * 2 + 1, none⟩ = some (.int .i64 ((flat (zs.take k ++ List.replicate (zs.length - k) (0, 0))).getD (k * 2 + 1) 0)) := by
        rw [hB.cell, icells_get _ _ (by rw [flat_len]; simp; omega)]
      have hBf1 := hB.frozen (k * 2)
      have hBf2 := hB.frozen (k * 2 + 1)
      go_wp2_with fail
      go_at_call 30; refine (toFigure_c _ _ _).mono ?_; rintro e w1 ⟨rfl, hb1⟩; obtain ⟨hc1, hf1, hz1⟩ := bel hb1; (try simp only [World.size_drew, World.cell?_drew, World.frozen?_drew] at hc1 hf1 hz1); (try simp only [World.heap_drewN, World.cell?_drewN, World.frozen?_drewN] at hc1 hf1 hz1); (try have hl1 : w.heap.size < w1.heap.size := by (have hq := hb1.size; (try simp at hq); omega)); (try have hm1 : w.heap.size + 1 < w1.heap.size := by (have hq := hb1.size; (try simp at hq); omega)); (try have hn1 : w.heap.size + 1 + 1 < w1.heap.size := by (have hq := hb1.size; (try simp at hq); omega)); (try have hp1 : b < w1.heap.size := by (have hq := hb1.size; (try simp at hq); omega)); (try have ho1 : b' < w1.heap.size := by (have hq := hb1.size; (try simp at hq); omega))
      have hS := ((Blk.step hb1 hB).set_ (k * 2) (.int .i64 zs[k].1)).set_ (k * 2 + 1) (.int .i64 zs[k].2)
      rw [icells_set, icells_set, flat_set, show (zs[k].1, zs[k].2) = zs.getD k (0, 0) by rw [getD_at _ _ _ hlt], take_set_step2 zs _ k hlt rfl] at hS
      have HS := Lib.hid hS
      have hlt' := hB.lt
      clear hB hS
      go_wp2_with fail
      exact ⟨⟨k + 1, by omega, by go_num, HS.out, ((hbel.trans (hb1.mono hbel.size)).setCell (Nat.le_refl _) _).setCell (Nat.le_refl _) _⟩, by simp [intOf]; omega⟩
    · have e : k = zs.length := by omega
      subst e
      have HS : Hid (Blk wr w.heap.size 34 (icells (flat zs))) := by
        have := hB
        rw [Nat.sub_self, List.replicate_zero, List.append_nil, List.take_length] at this
        exact this
      clear hB
      go_wp2
      go_ret
      exact ⟨rfl, HS.out, hbel⟩
theorem szFigureS_c (A : Option Addr) (n c : Nat) (l : Int) (h1 : 0 ≤ l) (h2 : l ≤ 1048576) (hn : n ≤ 9223372036854775807) (w : World) :
    Calls Try.prog 14 #[.slice A n c, .int .i64 l] w fun e w' => e = .returned (.int .i64 (szV l n)) ∧ w = w' := by
  by_cases h : l < n
  · go_enter Try.func14, Try.ntmps14
    go_wp2
    go_ret
    exact ⟨ret_int (by simp [szV]; omega), rfl⟩
  · go_enter Try.func14, Try.ntmps14
    go_wp2
    go_ret
    exact ⟨ret_int (by simp [szV]; omega), rfl⟩
theorem szInt64S_c (A : Option Addr) (n c : Nat) (l : Int) (h1 : 0 ≤ l) (h2 : l ≤ 1048576) (hn : n ≤ 9223372036854775807) (w : World) :
    Calls Try.prog 97 #[.slice A n c, .int .i64 l] w fun e w' => e = .returned (.int .i64 (szV l n)) ∧ w = w' := by
  by_cases h : l < n
  · go_enter Try.func97, Try.ntmps97
    go_wp2
    go_ret
    exact ⟨ret_int (by simp [szV]; omega), rfl⟩
  · go_enter Try.func97, Try.ntmps97
    go_wp2
    go_ret
    exact ⟨ret_int (by simp [szV]; omega), rfl⟩
theorem eqFigureS_c (A B : Option Addr) (c d : Nat) (xs ys : List (Int × Int)) (hx : xs.length ≤ 1048576) (hy : ys.length ≤ 1048576) (w : World) (hA : Prs w A xs) (hB : Prs w B ys) :
    Calls Try.prog 20 #[.slice A xs.length c, .slice B ys.length d] w fun e w' => e = .returned (.bool (eqL xs ys)) ∧ Below w.heap.size w w' := by
  by_cases hl : xs.length = ys.length
  · have H := Lib.hid hl
    have b0 : ((xs.length : Int) != (ys.length : Int)) = false := by simp [hl]
    clear hl
    go_enter Try.func20, Try.ntmps20
    go_wp2
    go_loopw [5] (fun i wr => ∃ k : Nat, k ≤ xs.length ∧ i = .int .i64 k ∧ Agree (0, 0) xs ys k ∧ Below w.heap.size w wr) (fun i _ => xs.length - (intOf i).toNat)
    case atStart => exact ⟨0, Nat.zero_le _, rfl, Agree.zero _ _ _, Below.refl _ _⟩
    case round =>
      obtain ⟨k, hk, rfl, hag, hbel⟩ := hrel
      have HA := Lib.hid hag
      clear hag
      by_cases hlt : k < xs.length
      · have hlt2 : k < ys.length := by have := H.out; omega
        obtain ⟨b, o, rfl, hbb, hc1, hc2⟩ := (Prs.step hbel hA).at_ k hlt
        obtain ⟨b', o', rfl, hbb', hc1', hc2'⟩ := (Prs.step hbel hB).at_ k hlt2
        by_cases he : xs[k] = ys[k]
        · have HE := Lib.hid he
          have b1 : eqP (xs[k].1, xs[k].2) (ys[k].1, ys[k].2) = true := by simp [eqP, he]
          clear he
          go_wp2
          go_region_held3 (fun w' => w'.cell? ⟨b, o + k * 2, none⟩ = some (.int .i64 xs[k].1) ∧ w'.cell? ⟨b, o + k * 2 + 1, none⟩ = some (.int .i64 xs[k].2) ∧ w'.cell? ⟨b', o' + k * 2, none⟩ = some (.int .i64 ys[k].1) ∧ w'.cell? ⟨b', o' + k * 2 + 1, none⟩ = some (.int .i64 ys[k].2)) (simp [go_sem, *])
              (first | (go_at_call 41; refine (eqFigure_c _ _ _ _ _).mono ?_; rintro e w1 ⟨rfl, hb1⟩; obtain ⟨hc1, hf1, hz1⟩ := bel hb1; (try simp only [World.size_drew, World.cell?_drew, World.frozen?_drew] at hc1 hf1 hz1); (try simp only [World.heap_drewN, World.cell?_drewN, World.frozen?_drewN] at hc1 hf1 hz1); (try have hl1 : w.heap.size < w1.heap.size := by (have hq := hb1.size; (try simp at hq); omega)); (try have hm1 : w.heap.size + 1 < w1.heap.size := by (have hq := hb1.size; (try simp at hq); omega)); (try have hn1 : w.heap.size + 1 + 1 < w1.heap.size := by (have hq := hb1.size; (try simp at hq); omega)); (try have hp1 : b < w1.heap.size := by (have hq := hb1.size; (try simp at hq); omega)); (try have ho1 : b' < w1.heap.size := by (have hq := hb1.size; (try simp at hq); omega))))
          all_goals
            go_wp2
            go_roundw
            case rel => exact ⟨k + 1, by omega, by go_num, HA.out.succ (by rw [getD_at _ _ _ hlt, getD_at _ _ _ hlt2]; exact HE.out), by repeat (with_reducible first | exact Below.refl _ _ | assumption | refine Bel.alloc ?_ _ | refine Bel.step (by assumption) ?_ | refine Below.drew ?_ | refine Bel.drewN ?_ _ | refine Below.setCell ?_ (by first | exact Nat.le_refl _ | omega | (simp; done) | (simp; omega)) _)⟩
            case measure => simp [intOf]; omega
        · have b1 : eqP (xs[k].1, xs[k].2) (ys[k].1, ys[k].2) = false := decide_eq_false he
          have HE := Lib.hid he
          clear he
          go_wp2
          go_region_held3 (fun w' => w'.cell? ⟨b, o + k * 2, none⟩ = some (.int .i64 xs[k].1) ∧ w'.cell? ⟨b, o + k * 2 + 1, none⟩ = some (.int .i64 xs[k].2) ∧ w'.cell? ⟨b', o' + k * 2, none⟩ = some (.int .i64 ys[k].1) ∧ w'.cell? ⟨b', o' + k * 2 + 1, none⟩ = some (.int .i64 ys[k].2)) (simp [go_sem, *])
              (first | (go_at_call 41; refine (eqFigure_c _ _ _ _ _).mono ?_; rintro e w1 ⟨rfl, hb1⟩; obtain ⟨hc1, hf1, hz1⟩ := bel hb1; (try simp only [World.size_drew, World.cell?_drew, World.frozen?_drew] at hc1 hf1 hz1); (try simp only [World.heap_drewN, World.cell?_drewN, World.frozen?_drewN] at hc1 hf1 hz1); (try have hl1 : w.heap.size < w1.heap.size := by (have hq := hb1.size; (try simp at hq); omega)); (try have hm1 : w.heap.size + 1 < w1.heap.size := by (have hq := hb1.size; (try simp at hq); omega)); (try have hn1 : w.heap.size + 1 + 1 < w1.heap.size := by (have hq := hb1.size; (try simp at hq); omega)); (try have hp1 : b < w1.heap.size := by (have hq := hb1.size; (try simp at hq); omega)); (try have ho1 : b' < w1.heap.size := by (have hq := hb1.size; (try simp at hq); omega))))
          all_goals
            go_wp2
            go_ret
            refine ⟨ret_bool ?_, by repeat (with_reducible first | exact Below.refl _ _ | assumption | refine Bel.alloc ?_ _ | refine Bel.step (by assumption) ?_ | refine Below.drew ?_ | refine Bel.drewN ?_ _ | refine Below.setCell ?_ (by first | exact Nat.le_refl _ | omega | (simp; done) | (simp; omega)) _)⟩
            have : xs ≠ ys := by rintro rfl; exact HE.out rfl
            simp [eqL, this]
      · have e : k = xs.length := by omega
        subst e
        go_wp2
        go_ret
        refine ⟨ret_bool ?_, hbel⟩
        simp [eqL, HA.out.all H.out]
  · have b0 : ((xs.length : Int) != (ys.length : Int)) = true := by simp; omega
    go_enter Try.func20, Try.ntmps20
    go_wp2
    go_ret
    refine ⟨ret_bool ?_, Below.refl _ _⟩
    have : xs ≠ ys := by rintro rfl; exact hl rfl
    simp [eqL, this]
end Go.Proofs.Ytkhcepkcdfpofaa
