/- Chapter 6: the figures of a scale, and the one that stands nearest to a point. Conditions: as stated at each contract. -/
import Derived.Test.YtlphcpmneioogaaProg
import Derived.Test.YtlphcpmneioogaaBase
import Derived.Test.YtlphcpmneioogaaRw
import Derived.Test.YtlphcpmneioogaaL01
import Derived.Test.YtlphcpmneioogaaCp
import Derived.Test.YtlphcpmneioogaaL18
import Derived.Test.YtlphcpmneioogaaL23
import Derived.Test.YtlphcpmneioogaaL03
import Derived.Test.YtlphcpmneioogaaL04
import Derived.Test.YtlphcpmneioogaaL05
import Derived.Test.YtlphcpmneioogaaL05b
import Derived.Test.YtlphcpmneioogaaL28
import Derived.WalkKit
import Derived.WalkSpells
import Derived.WalkLawsBesides
import Derived.Lib.Hide
import Derived.Deep.QuietTactic
import Derived.BigQuiet
import Derived.Deep.Draws
import Derived.Deep.RegionHeld3
import Derived.Deep.Cut
import Derived.Deep.AppendLies
namespace Go.Proofs.Ytlphcpmneioogaa
open Go.RowKit
set_option linter.unusedVariables false
set_option linter.unusedSimpArgs false
/-- How many decades a scale shows. -/
def deN (sc : Int) : Nat := if sc = 1 then 2 else if sc = 2 then 3 else 1
theorem deN_bd (sc : Int) : 1 ≤ deN sc ∧ deN sc ≤ 3 := by unfold deN; split <;> (try split) <;> omega
/-- The figure with a number. -/
def nfD (n : Int) : Int := 1000 + 10 * (n % 900)
def nfT (n : Int) : Int := n / 900
theorem nf_ok {n : Int} (h0 : 0 ≤ n) (h : n < 2700) : okF (nfD n) (nfT n) = true := by
  unfold okF nfD nfT
  rw [inB_iff.2 ⟨by omega, by omega⟩, inB_iff.2 ⟨by omega, by omega⟩]; rfl
theorem nf_mk (k j : Nat) (h : j < 900) : nfD ((900 * k + j : Nat) : Int) = 1000 + 10 * (j : Int) ∧ nfT ((900 * k + j : Nat) : Int) = (k : Int) := by
  unfold nfD nfT
  constructor <;> omega
/-- The figures with the first k numbers. -/
def nfs (k : Nat) : List (Int × Int) := (List.range k).map fun (i : Nat) => (nfD (i : Int), nfT (i : Int))
theorem nfs_succ (k : Nat) : nfs (k + 1) = nfs k ++ [(nfD (k : Int), nfT (k : Int))] := by
  unfold nfs; rw [List.range_succ, List.map_append]; rfl
theorem nfs_len (k : Nat) : (nfs k).length = k := by simp [nfs]
theorem nfs_at (k i : Nat) (h : i < (nfs k).length) : (nfs k)[i] = (nfD (i : Int), nfT (i : Int)) := by simp [nfs]
/-- How far from twice a point the place of a figure stands. -/
def awF (sc n pt : Int) (t : Int) : Int := Ab (paL sc (nfD t) (nfT t) n + paH sc (nfD t) (nfT t) n - 2 * pt)
def brN (sc n pt : Int) : Nat := bst (awF sc n pt) (900 * deN sc)
theorem bst_one (f : Int → Int) : bst f 1 = 0 := by
  have := bst_no f 0 (Int.le_refl _)
  rw [this]; rfl
theorem awF_nonneg (sc n pt t : Int) : 0 ≤ awF sc n pt t := Ab_nonneg _
theorem bst_lt2 (f : Int → Int) (N : Nat) (h : 0 < N) : bst f N < N := (bst_char f N h).1
theorem l05Decades_c (sc : Int) (w : World) :
    Calls Try.prog 28 #[.int .i64 sc] w fun r w' => r = .returned (.int .i64 (deN sc : Nat)) ∧ w = w' := by
  by_cases s1 : sc = 1
  · subst s1
    go_enter Try.func28, Try.ntmps28
    go_wp2
    go_ret
    exact ⟨rfl, rfl⟩
  by_cases s2 : sc = 2
  · subst s2
    go_enter Try.func28, Try.ntmps28
    go_wp2
    go_ret
    exact ⟨rfl, rfl⟩
  have HV := Lib.hid (show deN sc = 1 by simp [deN, s1, s2])
  have n1 : (sc == 1) = false := by simpa using s1
  have n2 : (sc == 2) = false := by simpa using s2
  clear s1 s2
  go_enter Try.func28, Try.ntmps28
  go_wp2
  go_ret
  exact ⟨by rw [HV.out]; rfl, rfl⟩
theorem decadesOf_c (sc : Int) (h1 : 0 ≤ sc) (h2 : sc ≤ 5) (w : World) :
    Calls Try.prog 51 #[.int .i64 sc] w fun r w' => r = .returned (.int .i64 (deN sc : Nat)) ∧ Below w.heap.size w w' := by
  rcases (show sc = 0 ∨ sc = 1 ∨ sc = 2 ∨ sc = 3 ∨ sc = 4 ∨ sc = 5 by omega) with rfl | rfl | rfl | rfl | rfl | rfl
  · go_enter Try.func51, Try.ntmps51
    go_wp2
    go_ret
    exact ⟨rfl, by repeat (with_reducible first | exact Below.refl _ _ | assumption | refine Bel.alloc ?_ _ | refine Bel.step (by assumption) ?_ | refine Below.drew ?_ | refine Bel.drewN ?_ _ | refine Below.setCell ?_ (by first | exact Nat.le_refl _ | omega | (simp; done) | (simp; omega)) _)⟩
  · go_enter Try.func51, Try.ntmps51
    go_wp2
    go_ret
    exact ⟨rfl, by repeat (with_reducible first | exact Below.refl _ _ | assumption | refine Bel.alloc ?_ _ | refine Bel.step (by assumption) ?_ | refine Below.drew ?_ | refine Bel.drewN ?_ _ | refine Below.setCell ?_ (by first | exact Nat.le_refl _ | omega | (simp; done) | (simp; omega)) _)⟩
  · go_enter Try.func51, Try.ntmps51
    go_wp2
    go_ret
    exact ⟨rfl, by repeat (with_reducible first | exact Below.refl _ _ | assumption | refine Bel.alloc ?_ _ | refine Bel.step (by assumption) ?_ | refine Below.drew ?_ | refine Bel.drewN ?_ _ | refine Below.setCell ?_ (by first | exact Nat.le_refl _ | omega | (simp; done) | (simp; omega)) _)⟩
  · go_enter Try.func51, Try.ntmps51
    go_wp2
    go_ret
    exact ⟨rfl, by repeat (with_reducible first | exact Below.refl _ _ | assumption | refine Bel.alloc ?_ _ | refine Bel.step (by assumption) ?_ | refine Below.drew ?_ | refine Bel.drewN ?_ _ | refine Below.setCell ?_ (by first | exact Nat.le_refl _ | omega | (simp; done) | (simp; omega)) _)⟩
  · go_enter Try.func51, Try.ntmps51
    go_wp2
    go_ret
    exact ⟨rfl, by repeat (with_reducible first | exact Below.refl _ _ | assumption | refine Bel.alloc ?_ _ | refine Bel.step (by assumption) ?_ | refine Below.drew ?_ | refine Bel.drewN ?_ _ | refine Below.setCell ?_ (by first | exact Nat.le_refl _ | omega | (simp; done) | (simp; omega)) _)⟩
  · go_enter Try.func51, Try.ntmps51
    go_wp2
    go_ret
    exact ⟨rfl, by repeat (with_reducible first | exact Below.refl _ _ | assumption | refine Bel.alloc ?_ _ | refine Bel.step (by assumption) ?_ | refine Below.drew ?_ | refine Bel.drewN ?_ _ | refine Below.setCell ?_ (by first | exact Nat.le_refl _ | omega | (simp; done) | (simp; omega)) _)⟩
theorem l06At_c (n : Int) (h0 : 0 ≤ n) (h : n < 2700) (w : World) :
    Calls Try.prog 29 #[.int .i64 n] w fun r w' => r = .returned (.agg #[.int .i64 (nfD n), .int .i64 (nfT n)]) ∧ Below w.heap.size w w' := by
  have HV := Lib.hid (show nfD n = 1000 + 10 * (n % 900) ∧ nfT n = n / 900 from ⟨rfl, rfl⟩)
  have e1 : n.tmod 900 = n % 900 := Int.tmod_eq_emod_of_nonneg h0
  have e2 : n.tdiv 900 = n / 900 := Int.tdiv_eq_ediv_of_nonneg h0
  have b1 : 0 ≤ n % 900 := by omega
  have b2 : n % 900 < 900 := by omega
  go_enter Try.func29, Try.ntmps29
  go_wp2
  refine bodyPost_ret (v := .agg #[.int .i64 (1000 + 10 * (n % 900)), .int .i64 (n / 900)]) (by simp [results, Try.results29, go_sem, *]) rfl ⟨by rw [HV.out.1, HV.out.2], by repeat (with_reducible first | exact Below.refl _ _ | assumption | refine Bel.alloc ?_ _ | refine Bel.step (by assumption) ?_ | refine Below.drew ?_ | refine Bel.drewN ?_ _ | refine Below.setCell ?_ (by first | exact Nat.le_refl _ | omega | (simp; done) | (simp; omega)) _)⟩
theorem infoFg : (Try.prog.info? 26).map (fun i => (i.zero, i.size, i.bytes)) = some (some (.agg #[.int .i64 0, .int .i64 0]), 2, 16) := by kernel_rfl
set_option maxRecDepth 20000 in
set_option maxHeartbeats 2000000 in
theorem figuresOf_c (sc : Int) (h1 : 0 ≤ sc) (h2 : sc ≤ 5) (w : World) :
    Calls Try.prog 36 #[.int .i64 sc] w fun r w' => ∃ A c, r = .returned (.slice A (nfs (900 * deN sc)).length c) ∧ OwnP w' w.heap.size 26 (.slice A (nfs (900 * deN sc)).length c) (nfs (900 * deN sc)) ∧ Below w.heap.size w w' := by
  obtain ⟨n1, n2⟩ := deN_bd sc
  obtain ⟨N, hN⟩ : ∃ N, N = deN sc := ⟨_, rfl⟩
  rw [← hN] at n1 n2 ⊢
  have HN := Lib.hid hN
  clear hN
  go_enter Try.func36, Try.ntmps36
  go_wp2_with fail
  go_at_call 51; refine (decadesOf_c sc h1 h2 _).mono ?_; rintro e w1 ⟨rfl, hb1⟩; obtain ⟨hc1, hf1, hz1⟩ := bel hb1; (try simp only [World.size_drew, World.cell?_drew, World.frozen?_drew] at hc1 hf1 hz1); (try simp only [World.heap_drewN, World.cell?_drewN, World.frozen?_drewN] at hc1 hf1 hz1); (try have hl1 : w.heap.size < w1.heap.size := by (have hq := hb1.size; (try simp at hq); omega)); (try have hm1 : w.heap.size + 1 < w1.heap.size := by (have hq := hb1.size; (try simp at hq); omega)); (try have hn1 : w.heap.size + 1 + 1 < w1.heap.size := by (have hq := hb1.size; (try simp at hq); omega)); (try have hp1 : b < w1.heap.size := by (have hq := hb1.size; (try simp at hq); omega)); (try have ho1 : b' < w1.heap.size := by (have hq := hb1.size; (try simp at hq); omega))
  rw [← HN.out]
  clear HN
  have hO := OwnP.step hb1 (OwnP.new w w.heap.size 26 (Nat.le_refl _))
  have hbel1 : Below w.heap.size w w1 := by repeat (with_reducible first | exact Below.refl _ _ | assumption | refine Bel.alloc ?_ _ | refine Bel.step (by assumption) ?_ | refine Below.drew ?_ | refine Bel.drewN ?_ _ | refine Below.setCell ?_ (by first | exact Nat.le_refl _ | omega | (simp; done) | (simp; omega)) _)
  clear hb1 hc1 hf1 hz1
  go_wp2_with fail
  go_loopw [3, 4, 5, 9] (fun v _ _ i wr => ∃ k : Nat, k ≤ N ∧ i = .int .i64 k ∧ OwnP wr w.heap.size 26 v (nfs (900 * k)) ∧ Below w.heap.size w wr) (fun _ _ _ i _ => N - (intOf i).toNat)
  case atStart => exact ⟨0, Nat.zero_le _, rfl, hO, hbel1⟩
  case round =>
    obtain ⟨k, hk, rfl, hO2, hbel2⟩ := hrel
    clear hO hbel1
    by_cases hlt : k < N
    · go_wp2_with fail
      go_loopw [3, 5] (fun v dg wq => ∃ j : Nat, j ≤ 900 ∧ dg = .int .i64 (1000 + 10 * (j : Int)) ∧ OwnP wq w.heap.size 26 v (nfs (900 * k + j)) ∧ Below w.heap.size w wq) (fun _ dg _ => 10000 - (intOf dg).toNat)
      case atStart => exact ⟨0, Nat.zero_le _, rfl, hO2, hbel2⟩
      case round =>
        obtain ⟨j, hj, rfl, hO3, hbel3⟩ := hrel
        clear hO2 hbel2
        by_cases hlj : j < 900
        · obtain ⟨X, hX⟩ : ∃ X : Int, X = 1000 + 10 * (j : Int) := ⟨_, rfl⟩
          have HT := Lib.hid (show nfs (900 * k + (j + 1)) = nfs (900 * k + j) ++ [(X, (k : Int))] by rw [← Nat.add_assoc, nfs_succ, (nf_mk k j hlj).1, (nf_mk k j hlj).2, hX])
          have hl : (nfs (900 * k + j)).length ≤ 1000000000 := by rw [nfs_len]; omega
          have HL := Lib.hid hl
          have hs3 := hbel3.size
          have HE := Lib.hid (show X + 10 = 1000 + 10 * ((j + 1 : Nat) : Int) by omega)
          have x1 : 1000 ≤ X := by omega
          have x2 : X < 10000 := by omega
          have HM := Lib.hid (show (10000 - (X + 10)).toNat < (10000 - X).toNat by omega)
          rw [← hX]
          clear hl hX
          generalize nfs (900 * k + j) = zz at *
          go_wp2_with (at_builtin; refine wpList_app1P rfl _ _ 52 rfl w.heap.size 26 _ Try.underlying52 infoFg (by rfl) _ _ (X, (k : Int)) rfl (OwnP.alloc _ hO3) wr.heap.size rfl (by simp [go_sem]) (by simp [go_sem]) HL.out (by simp; omega) ?_; intro v2 w2 hO4 hb2)
          have hbel4 : Below w.heap.size w w2 := (show Below w.heap.size w (wr.alloc (.cells #[.int .i64 X, .int .i64 (k : Int)] 26)) by repeat (with_reducible first | exact Below.refl _ _ | assumption | refine Bel.alloc ?_ _ | refine Bel.step (by assumption) ?_ | refine Below.drew ?_ | refine Bel.drewN ?_ _ | refine Below.setCell ?_ (by first | exact Nat.le_refl _ | omega | (simp; done) | (simp; omega)) _)).trans (hb2.mono (by omega))
          go_wp2
          go_roundw
          case rel => exact ⟨j + 1, by omega, by rw [HE.out], by rw [HT.out]; exact hO4, hbel4⟩
          case measure => simp [intOf]; omega
        · obtain rfl : j = 900 := by omega
          have HT := Lib.hid (show nfs (900 * (k + 1)) = nfs (900 * k + 900) by rw [Nat.mul_add])
          go_wp2
          go_roundw
          case rel => exact ⟨k + 1, by omega, by go_num, by rw [HT.out]; exact hO3, hbel3⟩
          case measure => simp [intOf]; omega
    · obtain rfl : k = N := by omega
      obtain ⟨A', c', rfl, _, _, _, _⟩ := hO2.form
      go_wp2
      go_ret
      exact ⟨A', c', rfl, hO2, hbel2⟩
set_option maxRecDepth 20000 in
set_option maxHeartbeats 2000000 in
theorem l06Best_c (sc n pt : Int) (n1 : 0 ≤ n) (n2 : n ≤ 100000) (p1 : -1000000 ≤ pt) (p2 : pt ≤ 1000000) (w : World) :
    Calls Try.prog 15 #[.int .i64 sc, .int .i64 n, .int .i64 pt] w fun r w' => r = .returned (.agg #[.int .i64 (nfD (brN sc n pt : Nat)), .int .i64 (nfT (brN sc n pt : Nat))]) ∧ Below w.heap.size w w' := by
  obtain ⟨d1, d2⟩ := deN_bd sc
  have HV := Lib.hid (show brN sc n pt = bst (awF sc n pt) (900 * deN sc) from rfl)
  have HW := Lib.hid (fun t : Int => show awF sc n pt t = Ab (paL sc (nfD t) (nfT t) n + paH sc (nfD t) (nfT t) n - 2 * pt) from rfl)
  have HF := Lib.hid (awF_nonneg sc n pt)
  generalize awF sc n pt = f at *
  obtain ⟨N, hN⟩ : ∃ N, N = deN sc := ⟨_, rfl⟩
  rw [← hN] at d1 d2 HV
  have HN := Lib.hid hN
  clear hN
  go_enter Try.func15, Try.ntmps15
  go_wp2_with fail
  go_loopw [7, 8, 9, 11] (fun b l i _ wr => ∃ k : Nat, k ≤ 900 * N ∧ i = .int .i64 k ∧ b = .int .i64 (bst f k : Nat) ∧ l = .int .i64 (if k = 0 then -1 else f (bst f k : Nat)) ∧ Below w.heap.size w wr ∧ Hid (Blk wr w.heap.size 26 #[.int .i64 0, .int .i64 0])) (fun _ _ i _ _ => 900 * N - (intOf i).toNat)
  case atStart => exact ⟨0, Nat.zero_le _, rfl, rfl, rfl, by repeat (with_reducible first | exact Below.refl _ _ | assumption | refine Bel.alloc ?_ _ | refine Bel.step (by assumption) ?_ | refine Below.drew ?_ | refine Bel.drewN ?_ _ | refine Below.setCell ?_ (by first | exact Nat.le_refl _ | omega | (simp; done) | (simp; omega)) _), Lib.hid (Blk.new _ _ _)⟩
  case round =>
    obtain ⟨k, hk, rfl, rfl, rfl, hbel, HB⟩ := hrel
    obtain ⟨l, hl⟩ : ∃ l : Int, l = if k = 0 then (-1 : Int) else f (bst f k : Nat) := ⟨_, rfl⟩
    have hl0 : l < 0 → k = 0 := fun h => by
      by_cases hk0 : k = 0
      · exact hk0
      · rw [if_neg hk0] at hl; have := HF.out (bst f k : Nat); omega
    have hl1 : ¬ l < 0 → l = f (bst f k : Nat) := fun h => by
      by_cases hk0 : k = 0
      · rw [if_pos hk0] at hl; omega
      · rw [if_neg hk0] at hl; exact hl
    rw [← hl]
    have HL0 := Lib.hid hl0
    have HL1 := Lib.hid hl1
    clear hl hl0 hl1
    by_cases hlt : k < 900 * N
    · have hk3 : k < 2700 := by omega
      have HO := Lib.hid (nf_ok (n := (k : Int)) (by omega) (by omega))
      obtain ⟨e1, e2, e3, e4⟩ := okF_iff HO.out
      obtain ⟨_, _, ⟨b1, b2⟩, b3, b4⟩ := pa_bd (sc := sc) (t := nfT k) e1 e2 n1 n2
      obtain ⟨z, hz⟩ : ∃ z : Int, z = f (k : Int) := ⟨_, rfl⟩
      have HX := Lib.hid (hz.trans (HW.out k))
      have HZ := Lib.hid hz
      clear hz
      have HY := Lib.hid (bst_yes f k)
      have HNo := Lib.hid (bst_no f k)
      go_wp2_with fail
      go_at_call 28; refine (l05Decades_c _ _).mono ?_; rintro e w' ⟨rfl, rfl⟩
      rw [← HN.out]
      go_wp2_with fail
      go_at_call 29; refine (l06At_c k (by omega) (by omega) _).mono ?_; rintro e w1 ⟨rfl, hb1⟩
      go_wp2_with fail
      go_at_call 26; refine (l05Position_c sc (nfD k) (nfT k) HO.out _).mono ?_; rintro e w2 ⟨rfl, hb2⟩
      go_wp2_with fail
      go_at_call 25; refine (l05Place_c sc (nfD k) (nfT k) n e1 e2 n1 n2 _).mono ?_; rintro e w3 ⟨rfl, hb3⟩
      replace hbel := Bel.step hb3 (Bel.step hb2 (Bel.step hb1 hbel))
      replace HB := Lib.hid (Blk.alloc (.cells #[.int .i64 (paL sc (nfD k) (nfT k) n), .int .i64 (paH sc (nfD k) (nfT k) n)] 37) (Blk.step hb3 (Blk.step hb2 (Blk.step hb1 HB.out))))
      clear hb1 hb2 hb3
      generalize paL sc (nfD k) (nfT k) n = x at *
      generalize paH sc (nfD k) (nfT k) n = y at *
      go_wp2_with fail
      go_at_call 30; refine (l01Abs_c (x + y - 2 * pt) (by omega) (by omega) _).mono ?_; rintro e w' ⟨rfl, rfl⟩
      rw [← HX.out]
      have hbel4 : Below w.heap.size w (w3.alloc (.cells #[.int .i64 x, .int .i64 y] 37)) := by repeat (with_reducible first | exact Below.refl _ _ | assumption | refine Bel.alloc ?_ _ | refine Bel.step (by assumption) ?_ | refine Below.drew ?_ | refine Bel.drewN ?_ _ | refine Below.setCell ?_ (by first | exact Nat.le_refl _ | omega | (simp; done) | (simp; omega)) _)
      clear hbel
      generalize w3.alloc (.cells #[.int .i64 x, .int .i64 y] 37) = U at hbel4 HB ⊢
      by_cases hneg : l < 0
      · have HR := Lib.hid (HL0.out hneg)
        go_wp2
        go_roundw
        case rel => exact ⟨k + 1, by omega, by go_num, by rw [HR.out]; rw [bst_one], by rw [if_neg (by omega), HR.out, bst_one, HZ.out, HR.out], by repeat (with_reducible first | exact Below.refl _ _ | assumption | refine Bel.alloc ?_ _ | refine Bel.step (by assumption) ?_ | refine Below.drew ?_ | refine Bel.drewN ?_ _ | refine Below.setCell ?_ (by first | exact Nat.le_refl _ | omega | (simp; done) | (simp; omega)) _), Lib.hid (by repeat (with_reducible first | exact HB.out | assumption | refine Blk.alloc _ ?_ | refine Blk.step (by assumption) ?_ | refine Blk.drew ?_ | refine Blk.drewN _ ?_))⟩
        case measure => simp [intOf]; omega
      · have hlv := HL1.out (by omega)
        by_cases hz2 : z < l
        · have HR := Lib.hid (HY.out (by rw [← hlv, ← HZ.out]; exact hz2))
          clear hlv
          go_wp2
          go_roundw
          case rel => exact ⟨k + 1, by omega, by go_num, by rw [HR.out], by rw [if_neg (by omega), HR.out, HZ.out], by repeat (with_reducible first | exact Below.refl _ _ | assumption | refine Bel.alloc ?_ _ | refine Bel.step (by assumption) ?_ | refine Below.drew ?_ | refine Bel.drewN ?_ _ | refine Below.setCell ?_ (by first | exact Nat.le_refl _ | omega | (simp; done) | (simp; omega)) _), Lib.hid (by repeat (with_reducible first | exact HB.out | assumption | refine Blk.alloc _ ?_ | refine Blk.step (by assumption) ?_ | refine Blk.drew ?_ | refine Blk.drewN _ ?_))⟩
          case measure => simp [intOf]; omega
        · have HR := Lib.hid (HNo.out (by rw [← hlv, ← HZ.out]; omega))
          have HLV := Lib.hid hlv
          clear hlv
          go_wp2
          go_roundw
          case rel => exact ⟨k + 1, by omega, by go_num, by rw [HR.out], by rw [if_neg (by omega), HR.out, HLV.out], by repeat (with_reducible first | exact Below.refl _ _ | assumption | refine Bel.alloc ?_ _ | refine Bel.step (by assumption) ?_ | refine Below.drew ?_ | refine Bel.drewN ?_ _ | refine Below.setCell ?_ (by first | exact Nat.le_refl _ | omega | (simp; done) | (simp; omega)) _), Lib.hid (by repeat (with_reducible first | exact HB.out | assumption | refine Blk.alloc _ ?_ | refine Blk.step (by assumption) ?_ | refine Blk.drew ?_ | refine Blk.drewN _ ?_))⟩
          case measure => simp [intOf]; omega
    · obtain rfl : k = 900 * N := by omega
      have hb := bst_lt2 f (900 * N) (by omega)
      rw [← HV.out] at hb ⊢
      have hd : decide (((900 * N : Nat) : Int) < 900 * (N : Int)) = false := decide_eq_false (by omega)
      go_wp2_with fail
      go_at_call 28; refine (l05Decades_c _ _).mono ?_; rintro e w' ⟨rfl, rfl⟩
      rw [← HN.out]
      go_wp2_with fail
      go_at_call 29; refine (l06At_c (brN sc n pt : Nat) (by omega) (by omega) _).mono ?_; rintro e w1 ⟨rfl, hb1⟩
      replace HB := Lib.hid (Blk.step hb1 HB.out)
      replace hbel := Bel.step hb1 hbel
      go_wp2_with (refine wpList_store_blk (cs := #[.int .i64 (nfD (brN sc n pt : Nat)), .int .i64 (nfT (brN sc n pt : Nat))]) 26 _ _ _ HB.out (by kernel_rfl) rfl (by simp [Value.oneCell']) rfl rfl rfl rfl ?_)
      exact bodyPost_ret (results_blk (Blk.setRow #[.int .i64 (nfD (brN sc n pt : Nat)), .int .i64 (nfT (brN sc n pt : Nat))] HB.out) Try.underlying26 (by kernel_rfl) rfl rfl) rfl ⟨rfl, Bel.setRow hbel (by omega) _⟩
theorem Prs.setRow_far {w : World} {g b o : Nat} {ps : List (Int × Int)} (cs : Array Value) (hne : b ≠ g) (h : Prs w (some ⟨b, o, none⟩) ps) : Prs (w.setRow g cs) (some ⟨b, o, none⟩) ps := fun hn => by
  obtain ⟨b', o', e, hlt, hc⟩ := h hn
  injection e with e1
  injection e1 with e2 e3
  subst e2 e3
  refine ⟨b, o, rfl, by simpa [World.setRow] using hlt, fun i hi => ?_⟩
  obtain ⟨x, y⟩ := hc i hi
  exact ⟨(World.cell?_of_block (setRow_other w g b cs hne)).trans x, (World.cell?_of_block (setRow_other w g b cs hne)).trans y⟩
set_option maxRecDepth 20000 in
set_option maxHeartbeats 4000000 in
theorem bestReading_c (sc n pt : Int) (s1 : 0 ≤ sc) (s2 : sc ≤ 5) (n1 : 0 ≤ n) (n2 : n ≤ 100000) (p1 : -1000000 ≤ pt) (p2 : pt ≤ 1000000) (w : World) :
    Calls Try.prog 22 #[.int .i64 sc, .int .i64 n, .int .i64 pt] w fun r w' => r = .returned (.agg #[.int .i64 (nfD (brN sc n pt : Nat)), .int .i64 (nfT (brN sc n pt : Nat))]) ∧ Below w.heap.size w w' := by
  obtain ⟨d1, d2⟩ := deN_bd sc
  have HV := Lib.hid (show brN sc n pt = bst (awF sc n pt) (900 * deN sc) from rfl)
  have HW := Lib.hid (fun t : Int => show awF sc n pt t = Ab (paL sc (nfD t) (nfT t) n + paH sc (nfD t) (nfT t) n - 2 * pt) from rfl)
  have HF := Lib.hid (awF_nonneg sc n pt)
  generalize awF sc n pt = f at *
  obtain ⟨N, hN⟩ : ∃ N, N = deN sc := ⟨_, rfl⟩
  rw [← hN] at d1 d2 HV
  have HN := Lib.hid hN
  clear hN
  go_enter Try.func22, Try.ntmps22
  go_upto_region 3 with (fail)
  have HR0 : Blk ((w.alloc (.cells #[.int .i64 0, .int .i64 0] 26)).alloc (.cells #[.int .i64 0, .int .i64 0] 26)) w.heap.size 26 #[.int .i64 0, .int .i64 0] := Blk.alloc _ (Blk.new _ _ _)
  have HR1 : Blk ((w.alloc (.cells #[.int .i64 0, .int .i64 0] 26)).alloc (.cells #[.int .i64 0, .int .i64 0] 26)) (w.heap.size + 1) 26 #[.int .i64 0, .int .i64 0] := by have h := Blk.new (w.alloc (.cells #[.int .i64 0, .int .i64 0] 26)) 26 #[.int .i64 0, .int .i64 0]; simp only [World.size_alloc] at h; exact h
  have hbel0 : Below w.heap.size w ((w.alloc (.cells #[.int .i64 0, .int .i64 0] 26)).alloc (.cells #[.int .i64 0, .int .i64 0] 26)) := by repeat (with_reducible first | exact Below.refl _ _ | assumption | refine Bel.alloc ?_ _ | refine Bel.step (by assumption) ?_ | refine Below.drew ?_ | refine Bel.drewN ?_ _ | refine Below.setCell ?_ (by first | exact Nat.le_refl _ | omega | (simp; done) | (simp; omega)) _)
  generalize (w.alloc (.cells #[.int .i64 0, .int .i64 0] 26)).alloc (.cells #[.int .i64 0, .int .i64 0] 26) = w0 at HR0 HR1 hbel0 ⊢
  go_wp2_with fail
  go_at_call 36; refine (figuresOf_c sc s1 s2 _).mono ?_; rintro e w1 ⟨A, c, rfl, hO, hb1⟩
  rw [← HN.out] at hO ⊢
  have hP := hO.prs
  have hAb : ∀ b o, A = some ⟨b, o, none⟩ → w.heap.size + 1 < b := fun b o e => by
    obtain ⟨A', c', e1, _, _, _, hF⟩ := hO.form
    injection e1 with e2
    obtain ⟨g', _, e', hg', _⟩ := hF (by rw [nfs_len]; omega)
    rw [e2, e'] at e
    injection e with e3
    injection e3 with e4
    have := HR1.lt
    omega
  have HAB := Lib.hid hAb
  clear hAb
  rw [nfs_len]
  have HAT := Lib.hid (fun i => nfs_at (900 * N) i)
  have HLN := Lib.hid (nfs_len (900 * N))
  generalize nfs (900 * N) = ps at *
  replace HR0 := Lib.hid (Blk.step hb1 HR0)
  replace HR1 := Lib.hid (Blk.step hb1 HR1)
  replace hbel0 := Bel.step hb1 hbel0
  clear hb1 hO
  go_wp2_with fail
  go_loopw [8, 10, 11, 12, 17] (fun l _ _ _ i wr => ∃ k : Nat, k ≤ 900 * N ∧ i = .int .i64 k ∧ l = .int .i64 (if k = 0 then -1 else f (bst f k : Nat)) ∧ Below w.heap.size w wr ∧ Hid (Blk wr w.heap.size 26 #[.int .i64 0, .int .i64 0]) ∧ Hid (Blk wr (w.heap.size + 1) 26 #[.int .i64 (if k = 0 then 0 else nfD (bst f k : Nat)), .int .i64 (if k = 0 then 0 else nfT (bst f k : Nat))]) ∧ Hid (Prs wr A ps)) (fun _ _ _ _ i _ => 900 * N - (intOf i).toNat)
  case atStart => exact ⟨0, Nat.zero_le _, rfl, rfl, hbel0, HR0, HR1, Lib.hid hP⟩
  case round =>
    obtain ⟨k, hk, rfl, rfl, hbel, HB, HM, HP⟩ := hrel
    clear HR0 HR1 hP hbel0
    obtain ⟨l, hl⟩ : ∃ l : Int, l = if k = 0 then (-1 : Int) else f (bst f k : Nat) := ⟨_, rfl⟩
    have hl0 : l < 0 → k = 0 := fun h => by
      by_cases hk0 : k = 0
      · exact hk0
      · rw [if_neg hk0] at hl; have := HF.out (bst f k : Nat); omega
    have hl1 : ¬ l < 0 → l = f (bst f k : Nat) := fun h => by
      by_cases hk0 : k = 0
      · rw [if_pos hk0] at hl; omega
      · rw [if_neg hk0] at hl; exact hl
    rw [← hl]
    have HL0 := Lib.hid hl0
    have HL1 := Lib.hid hl1
    have HLK := Lib.hid (show k = 0 → l < 0 from fun h => by rw [if_pos h] at hl; omega)
    clear hl hl0 hl1
    by_cases hlt : k < 900 * N
    · have hk3 : k < 2700 := by omega
      have HO := Lib.hid (nf_ok (n := (k : Int)) (by omega) (by omega))
      obtain ⟨e1, e2, e3, e4⟩ := okF_iff HO.out
      obtain ⟨_, _, ⟨b1, b2⟩, b3, b4⟩ := pa_bd (sc := sc) (t := nfT k) e1 e2 n1 n2
      obtain ⟨z, hz⟩ : ∃ z : Int, z = f (k : Int) := ⟨_, rfl⟩
      have HX := Lib.hid (hz.trans (HW.out k))
      have HZ := Lib.hid hz
      clear hz
      have HY := Lib.hid (bst_yes f k)
      have HNo := Lib.hid (bst_no f k)
      have hlk : k < ps.length := by rw [HLN.out]; exact hlt
      obtain ⟨b, o, rfl, hbb, hc1, hc2⟩ := HP.out.at_ k hlk
      rw [HAT.out k hlk] at hc1 hc2
      have HPr := Lib.hid HP.out
      have hzb := hbel.size
      go_upto_region 6 with (fail)
      have H10 : Blk (wr.alloc (.cells #[.int .i64 (nfD k), .int .i64 (nfT k)] 26)) wr.heap.size 26 #[.int .i64 (nfD k), .int .i64 (nfT k)] := Blk.new _ _ _
      replace HB := Lib.hid (Blk.alloc (.cells #[.int .i64 (nfD k), .int .i64 (nfT k)] 26) HB.out)
      replace HM := Lib.hid (Blk.alloc (.cells #[.int .i64 (nfD k), .int .i64 (nfT k)] 26) HM.out)
      replace HPr := Lib.hid (Prs.alloc (.cells #[.int .i64 (nfD k), .int .i64 (nfT k)] 26) HPr.out)
      replace hbel := Bel.alloc hbel (.cells #[.int .i64 (nfD k), .int .i64 (nfT k)] 26)
      clear hc1 hc2 HP hbb
      obtain ⟨g, hg⟩ : ∃ g, g = wr.heap.size := ⟨_, rfl⟩
      rw [← hg] at H10 hzb ⊢
      clear hg
      generalize wr.alloc (.cells #[.int .i64 (nfD k), .int .i64 (nfT k)] 26) = U at H10 HB HM HPr hbel ⊢
      have c0 : U.cell? ⟨g, 0, none⟩ = some (.int .i64 (nfD k)) := by rw [H10.cell]; rfl
      have c1 : U.cell? ⟨g, 1, none⟩ = some (.int .i64 (nfT k)) := by rw [H10.cell]; rfl
      go_wp2_with fail
      go_at_call 18; refine (place_c sc (nfD k) (nfT k) n HO.out n1 n2 _).mono ?_; rintro e w2 ⟨rfl, hb2⟩
      replace H10 := Blk.step hb2 H10
      replace HB := Lib.hid (Blk.step hb2 HB.out)
      replace HM := Lib.hid (Blk.step hb2 HM.out)
      replace HPr := Lib.hid (Prs.step hb2 HPr.out)
      replace hbel := Bel.step hb2 hbel
      clear hb2 c0 c1
      generalize paL sc (nfD k) (nfT k) n = x at *
      generalize paH sc (nfD k) (nfT k) n = y at *
      go_upto_region 7 with (fail)
      have H11 : Blk (w2.alloc (.cells #[.int .i64 x, .int .i64 y] 37)) w2.heap.size 37 #[.int .i64 x, .int .i64 y] := Blk.new _ _ _
      replace H10 := Blk.alloc (.cells #[.int .i64 x, .int .i64 y] 37) H10
      replace HB := Lib.hid (Blk.alloc (.cells #[.int .i64 x, .int .i64 y] 37) HB.out)
      replace HM := Lib.hid (Blk.alloc (.cells #[.int .i64 x, .int .i64 y] 37) HM.out)
      replace HPr := Lib.hid (Prs.alloc (.cells #[.int .i64 x, .int .i64 y] 37) HPr.out)
      replace hbel := Bel.alloc hbel (.cells #[.int .i64 x, .int .i64 y] 37)
      obtain ⟨g2, hg2⟩ : ∃ g, g = w2.heap.size := ⟨_, rfl⟩
      rw [← hg2] at H11 ⊢
      clear hg2
      generalize w2.alloc (.cells #[.int .i64 x, .int .i64 y] 37) = V at H11 H10 HB HM HPr hbel ⊢
      have c0 : V.cell? ⟨g2, 0, none⟩ = some (.int .i64 x) := by rw [H11.cell]; rfl
      have c1 : V.cell? ⟨g2, 1, none⟩ = some (.int .i64 y) := by rw [H11.cell]; rfl
      go_wp2_with fail
      go_at_call 37; refine (distance_c (x + y) (2 * pt) (by omega) (by omega) (by omega) (by omega) _).mono ?_; rintro e w' ⟨rfl, rfl⟩
      rw [← HX.out]
      clear c0 c1 H11
      have HS1 := Lib.hid (show (if k + 1 = 0 then (0 : Int) else nfD (bst f (k + 1) : Nat)) = nfD (bst f (k + 1) : Nat) ∧ (if k + 1 = 0 then (0 : Int) else nfT (bst f (k + 1) : Nat)) = nfT (bst f (k + 1) : Nat) from ⟨if_neg (by omega), if_neg (by omega)⟩)
      have hbw := HAB.out b o rfl
      by_cases hneg : l < 0
      · have HK := Lib.hid (show bst f (k + 1) = k from by rw [HL0.out hneg]; exact bst_one f)
        go_wp2_with (first | (refine wpList_load_blk 26 _ _ H10 Try.underlying26 (by kernel_rfl) rfl rfl rfl ?_) | (refine wpList_store_blk (cs := #[.int .i64 (nfD k), .int .i64 (nfT k)]) 26 _ _ _ HM.out (by kernel_rfl) rfl (by simp [Value.oneCell']) rfl rfl rfl rfl ?_))
        go_roundw
        case rel => exact ⟨k + 1, by omega, by go_num, by rw [if_neg (by omega), HK.out, HZ.out], Bel.setRow hbel (by omega) _, Lib.hid (Blk.setRow_far _ (by omega) HB.out), Lib.hid (by rw [HS1.out.1, HS1.out.2, HK.out]; exact Blk.setRow _ HM.out), Lib.hid (Prs.setRow_far _ (by omega) HPr.out)⟩
        case measure => simp [intOf]; omega
      · have hlv := HL1.out (by omega)
        by_cases hz2 : z < l
        · have hy := HY.out (by rw [← hlv, ← HZ.out]; exact hz2)
          clear hlv
          have HK := Lib.hid (show bst f (k + 1) = k from hy)
          go_wp2_with (first | (refine wpList_load_blk 26 _ _ H10 Try.underlying26 (by kernel_rfl) rfl rfl rfl ?_) | (refine wpList_store_blk (cs := #[.int .i64 (nfD k), .int .i64 (nfT k)]) 26 _ _ _ HM.out (by kernel_rfl) rfl (by simp [Value.oneCell']) rfl rfl rfl rfl ?_))
          go_roundw
          case rel => exact ⟨k + 1, by omega, by go_num, by rw [if_neg (by omega), HK.out, HZ.out], Bel.setRow hbel (by omega) _, Lib.hid (Blk.setRow_far _ (by omega) HB.out), Lib.hid (by rw [HS1.out.1, HS1.out.2, HK.out]; exact Blk.setRow _ HM.out), Lib.hid (Prs.setRow_far _ (by omega) HPr.out)⟩
          case measure => simp [intOf]; omega
        · have HK := Lib.hid (HNo.out (by rw [← hlv, ← HZ.out]; omega))
          have HLV := Lib.hid hlv
          have HKN := Lib.hid (show k ≠ 0 from fun h => hneg (HLK.out h))
          clear hlv
          go_wp2
          go_roundw
          case rel => exact ⟨k + 1, by omega, by go_num, by rw [if_neg (by omega), HK.out, HLV.out], hbel, HB, Lib.hid (by have h := HM.out; rw [if_neg HKN.out, if_neg HKN.out] at h; rw [HS1.out.1, HS1.out.2, HK.out]; exact h), HPr⟩
          case measure => simp [intOf]; omega
    · obtain rfl : k = 900 * N := by omega
      have hk0 : ¬ 900 * N = 0 := by omega
      have HM2 := HM.out
      rw [if_neg hk0, if_neg hk0, ← HV.out] at HM2
      have hd : decide (((900 * N : Nat) : Int) < 900 * (N : Int)) = false := decide_eq_false (by omega)
      go_wp2_with (first | (refine wpList_load_blk 26 _ _ HM2 Try.underlying26 (by kernel_rfl) rfl rfl rfl ?_) | (refine wpList_store_blk (cs := #[.int .i64 (nfD (brN sc n pt : Nat)), .int .i64 (nfT (brN sc n pt : Nat))]) 26 _ _ _ HB.out (by kernel_rfl) rfl (by simp [Value.oneCell']) rfl rfl rfl rfl ?_))
      exact bodyPost_ret (results_blk (Blk.setRow #[.int .i64 (nfD (brN sc n pt : Nat)), .int .i64 (nfT (brN sc n pt : Nat))] HB.out) Try.underlying26 (by kernel_rfl) rfl rfl) rfl ⟨rfl, Bel.setRow hbel (by omega) _⟩
end Go.Proofs.Ytlphcpmneioogaa
