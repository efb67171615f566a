/- Chapter 25: products of projections. Conditions: as stated at each contract. -/
import Derived.Test.YthfphjbaglgacaaProg
import Derived.Test.YthfphjbaglgacaaBase
import Derived.Test.YthfphjbaglgacaaL01
import Derived.Test.YthfphjbaglgacaaCp
import Derived.Test.YthfphjbaglgacaaL25
import Derived.Test.YthfphjbaglgacaaL25b
import Derived.Test.YthfphjbaglgacaaL25c
import Derived.WalkKit
import Derived.WalkSpells
import Derived.WalkLawsBesides
import Derived.Lib.Hide
import Derived.Deep.QuietTactic
import Derived.BigQuiet
import Derived.Deep.Draws
import Derived.Deep.RegionHeld3
import Derived.StillTailTactics
namespace Go.Proofs.Ythfphjbaglgacaa
open Go.RowKit
set_option linter.unusedVariables false
/-- A partial sum of an entry of the product. -/
def prT (a b : List Int) (e : Nat) : Nat → Int
  | 0 => 0
  | k + 1 => prT a b e k + a.getD (e / 3 * 3 + k) 0 * b.getD (3 * k + e % 3) 0
def prL (a b : List Int) (n : Nat) : List Int := (List.range n).map (fun e => prT a b e 3)
theorem prL_len (a b : List Int) (n : Nat) : (prL a b n).length = n := by simp [prL]
theorem prL_step (a b : List Int) (n : Nat) : prL a b (n + 1) = prL a b n ++ [prT a b n 3] := by simp [prL, List.range_succ]
theorem prod_bd (a b : List Int) (ha : ∀ i, -1000000 ≤ a.getD i 0 ∧ a.getD i 0 ≤ 1000000) (hb : ∀ i, -1000000 ≤ b.getD i 0 ∧ b.getD i 0 ≤ 1000000) (i j : Nat) : -1000000000000 ≤ a.getD i 0 * b.getD j 0 ∧ a.getD i 0 * b.getD j 0 ≤ 1000000000000 := by
  have := mul_bd (a.getD i 0) (b.getD j 0) 1000000 1000000 (ha i).1 (ha i).2 (hb j).1 (hb j).2
  omega
theorem prT_bd (a b : List Int) (ha : ∀ i, -1000000 ≤ a.getD i 0 ∧ a.getD i 0 ≤ 1000000) (hb : ∀ i, -1000000 ≤ b.getD i 0 ∧ b.getD i 0 ≤ 1000000) (e k : Nat) (hk : k ≤ 3) : -4000000000000 ≤ prT a b e k ∧ prT a b e k ≤ 4000000000000 := by
  have p := prod_bd a b ha hb
  have p0 := p (e / 3 * 3 + 0) (3 * 0 + e % 3)
  have p1 := p (e / 3 * 3 + 1) (3 * 1 + e % 3)
  have p2 := p (e / 3 * 3 + 2) (3 * 2 + e % 3)
  have hk : k = 0 ∨ k = 1 ∨ k = 2 ∨ k = 3 := by omega
  rcases hk with rfl | rfl | rfl | rfl <;> simp only [prT] <;> omega
theorem cramer (a0 a1 a2 a3 a4 a5 a6 a7 a8 b0 b3 b6 : Int) (h0 : a0*b0+a1*b3+a2*b6 = 0) (h1 : a3*b0+a4*b3+a5*b6 = 0) (h2 : a6*b0+a7*b3+a8*b6 = 0)
 (hd : a0*(a4*a8-a5*a7) - a1*(a3*a8-a5*a6) + a2*(a3*a7-a4*a6) ≠ 0) : b0 = 0 ∧ b3 = 0 ∧ b6 = 0 := by
  have e0 : (a0*(a4*a8-a5*a7) - a1*(a3*a8-a5*a6) + a2*(a3*a7-a4*a6)) * b0 = 0 := by grind
  have e1 : (a0*(a4*a8-a5*a7) - a1*(a3*a8-a5*a6) + a2*(a3*a7-a4*a6)) * b3 = 0 := by grind
  have e2 : (a0*(a4*a8-a5*a7) - a1*(a3*a8-a5*a6) + a2*(a3*a7-a4*a6)) * b6 = 0 := by grind
  refine ⟨?_, ?_, ?_⟩
  · exact (Int.mul_eq_zero.1 e0).resolve_left hd
  · exact (Int.mul_eq_zero.1 e1).resolve_left hd
  · exact (Int.mul_eq_zero.1 e2).resolve_left hd
theorem minV_00 (m : List Int) : minV m 0 0 = m.getD 4 0 * m.getD 8 0 - m.getD 5 0 * m.getD 7 0 := by simp [minV, minL]
theorem minV_01 (m : List Int) : minV m 0 1 = m.getD 3 0 * m.getD 8 0 - m.getD 5 0 * m.getD 6 0 := by simp [minV, minL]
theorem minV_02 (m : List Int) : minV m 0 2 = m.getD 3 0 * m.getD 7 0 - m.getD 4 0 * m.getD 6 0 := by simp [minV, minL]
theorem pr_gc {a b : List Int} (h : detV a ≠ 0) (h' : detV b ≠ 0) : gcL (prL a b 9) ≠ 0 := by
  intro h0
  have z := gcL_zero h0
  have at_ : ∀ e, e < 9 → prT a b e 3 ∈ prL a b 9 := fun e he => List.mem_map.2 ⟨e, List.mem_range.2 he, rfl⟩
  have z0 := z _ (at_ 0 (by omega))
  have z3 := z _ (at_ 3 (by omega))
  have z6 := z _ (at_ 6 (by omega))
  simp only [prT, Nat.reduceDiv, Nat.reduceMul, Nat.reduceAdd, Nat.reduceMod, Int.zero_add] at z0 z3 z6
  rw [detV, minV_00, minV_01, minV_02] at h
  obtain ⟨b0, b3, b6⟩ := cramer _ _ _ _ _ _ _ _ _ _ _ _ z0 z3 z6 h
  apply h'
  rw [detV, minV_00, minV_01, minV_02, b0, b3, b6]
  simp
theorem prL_mem (a b : List Int) (ha : ∀ i, -1000000 ≤ a.getD i 0 ∧ a.getD i 0 ≤ 1000000) (hb : ∀ i, -1000000 ≤ b.getD i 0 ∧ b.getD i 0 ≤ 1000000) : ∀ x ∈ prL a b 9, -4000000000000000000 ≤ x ∧ x ≤ 4000000000000000000 := by
  intro x hx
  obtain ⟨e, he, rfl⟩ := List.mem_map.1 hx
  have := prT_bd a b ha hb e 3 (by omega)
  omega
def comC (a b : List Int) : Int := if isPr a && isPr b then lowC (prL a b 9) else 1
def comR (a b : List Int) : List Int := if isPr a && isPr b then lowL (prL a b 9) else []
theorem comR_len (a b : List Int) : (comR a b).length ≤ 9 := by
  unfold comR; split
  · exact lowL_len _ (prL_len a b 9)
  · simp
set_option maxHeartbeats 1000000 in
theorem ComposeProjections_S (A B : Option Addr) (c d : Nat) (a b : List Int) (hn : a.length ≤ 1048576) (hn' : b.length ≤ 1048576) (w : World) (hA : Ints w A a) (hB : Ints w B b) :
    Calls Try.prog 37 #[.slice A a.length c, .slice B b.length d] w fun e w' => ∃ v, e = .returned (.tuple #[v, .int .i64 (comC a b)]) ∧ Own w' w.heap.size 2 v (comR a b) ∧ Below w.heap.size w w' := by
  by_cases hp : isPr a = true
  · by_cases hq : isPr b = true
    · obtain ⟨p1, p2, p3⟩ := isPr_iff hp
      obtain ⟨q1, q2, q3⟩ := isPr_iff hq
      have HV := Lib.hid <| show comC a b = lowC (prL a b 9) ∧ comR a b = lowL (prL a b 9) from by simp [comC, comR, hp, hq]
      have HBa := Lib.hid (okEnt_bd p1)
      have HBb := Lib.hid (okEnt_bd q1)
      have HMa := Lib.hid p2
      have HMb := Lib.hid q2
      have HG := Lib.hid (pr_gc p3 q3)
      have HL := Lib.hid (prL_mem a b HBa.out HBb.out)
      have HT := Lib.hid (prT_bd a b HBa.out HBb.out)
      have HP := Lib.hid (prod_bd a b HBa.out HBb.out)
      clear p1 p2 p3 q1 q2 q3
      go_enter Try.func37, Try.ntmps37
      go_wp2_with fail
      go_at_call 34; refine (IsProjection_S _ _ _ hn _ hA).mono ?_; rintro e w1 ⟨rfl, hb1⟩; obtain ⟨hc1, hf1, hz1⟩ := bel hb1; (try simp only [World.size_drew, World.cell?_drew, World.frozen?_drew] at hc1 hf1 hz1); (try simp only [World.heap_drewN, World.cell?_drewN, World.frozen?_drewN] at hc1 hf1 hz1); (try have hl1 : w.heap.size < w1.heap.size := by (have hq := hb1.size; (try simp at hq); omega)); (try have hm1 : w.heap.size + 1 < w1.heap.size := by (have hq := hb1.size; (try simp at hq); omega)); (try have hn1 : w.heap.size + 1 + 1 < w1.heap.size := by (have hq := hb1.size; (try simp at hq); omega)); (try have hp1 : b < w1.heap.size := by (have hq := hb1.size; (try simp at hq); omega)); (try have ho1 : b' < w1.heap.size := by (have hq := hb1.size; (try simp at hq); omega))
      go_wp2_with fail
      go_at_call 34; refine (IsProjection_S _ _ _ hn' _ (Ints.step hb1 hB)).mono ?_; rintro e w2 ⟨rfl, hb2⟩; obtain ⟨hc2, hf2, hz2⟩ := bel hb2; (try simp only [World.size_drew, World.cell?_drew, World.frozen?_drew] at hc2 hf2 hz2); (try simp only [World.heap_drewN, World.cell?_drewN, World.frozen?_drewN] at hc2 hf2 hz2); (try have hl2 : w.heap.size < w2.heap.size := by (have hq := hb2.size; (try simp at hq); omega)); (try have hm2 : w.heap.size + 1 < w2.heap.size := by (have hq := hb2.size; (try simp at hq); omega)); (try have hn2 : w.heap.size + 1 + 1 < w2.heap.size := by (have hq := hb2.size; (try simp at hq); omega)); (try have hp2 : b < w2.heap.size := by (have hq := hb2.size; (try simp at hq); omega)); (try have ho2 : b' < w2.heap.size := by (have hq := hb2.size; (try simp at hq); omega))
      have hbel2 : Below w.heap.size w w2 := by repeat (with_reducible first | exact Below.refl _ _ | assumption | refine Bel.alloc ?_ _ | refine Bel.step (by assumption) ?_ | refine Below.drew ?_ | refine Bel.drewN ?_ _ | refine Below.setCell ?_ (by first | exact Nat.le_refl _ | omega | (simp; done) | (simp; omega)) _)
      have hs2 := hbel2.size
      clear hb1 hb2 hc1 hf1 hz1 hc2 hf2 hz2
      go_wp2_with fail
      go_loopw [6, 7, 8, 9] (fun v i _ _ wr => ∃ k : Nat, k ≤ 9 ∧ i = .int .i64 k ∧ Own wr w.heap.size 2 v (prL a b k) ∧ Below w.heap.size w wr) (fun _ i _ _ _ => 9 - (intOf i).toNat)
      case atStart => exact ⟨0, Nat.zero_le _, rfl, Own.new _ _ _ hs2, by repeat (with_reducible first | exact Below.refl _ _ | assumption | refine Bel.alloc ?_ _ | refine Bel.step (by assumption) ?_ | refine Below.drew ?_ | refine Bel.drewN ?_ _ | refine Below.setCell ?_ (by first | exact Nat.le_refl _ | omega | (simp; done) | (simp; omega)) _)⟩
      case round =>
        clear hs2 hbel2
        obtain ⟨k, hk, rfl, hO, hbel⟩ := hrel
        have hs := hbel.size
        by_cases hlt : k < 9
        · have d1 : decide ((k : Int) < 9) = true := by simp; omega
          have HS := Lib.hid (prL_step a b k)
          have HN := Lib.hid (prL_len a b k)
          have hIa := Ints.step hbel hA
          have hIb := Ints.step hbel hB
          have HO := Lib.hid hO
          obtain ⟨wo, rfl⟩ : ∃ wo : World, wo = wr := ⟨_, rfl⟩
          clear hO
          go_wp2
          go_loopw [8, 9] (fun n j wr' => ∃ l : Nat, l ≤ 3 ∧ j = .int .i64 l ∧ n = .int .i64 (prT a b k l) ∧ Below wo.heap.size wo wr') (fun _ j _ => 3 - (intOf j).toNat)
          case atStart => exact ⟨0, Nat.zero_le _, rfl, rfl, Below.refl _ _⟩
          case round =>
            obtain ⟨l, hl, rfl, rfl, hbel2⟩ := hrel
            by_cases hlt2 : l < 3
            · obtain ⟨ba, oa, rfl, hba, hca⟩ := (Ints.step hbel2 hIa).at_ (k / 3 * 3 + l) (by rw [HMa.out]; omega)
              obtain ⟨bb, ob, rfl, hbb, hcb⟩ := (Ints.step hbel2 hIb).at_ (3 * l + k % 3) (by rw [HMb.out]; omega)
              obtain ⟨x, hx⟩ : ∃ x, x = a.getD (k / 3 * 3 + l) 0 := ⟨_, rfl⟩
              obtain ⟨y, hy⟩ : ∃ y, y = b.getD (3 * l + k % 3) 0 := ⟨_, rfl⟩
              rw [← getD_at 0 a _ (by rw [HMa.out]; omega), ← hx] at hca
              rw [← getD_at 0 b _ (by rw [HMb.out]; omega), ← hy] at hcb
              have t1 := HT.out k l (by omega)
              have t2 := HP.out (k / 3 * 3 + l) (3 * l + k % 3)
              rw [← hx, ← hy] at t2
              have HY := Lib.hid <| show prT a b k (l + 1) = prT a b k l + x * y from by rw [prT, ← hx, ← hy]
              have x1 : ((k : Int) / 3 * 3 + l).toNat = k / 3 * 3 + l := by omega
              have x2 : 0 ≤ (k : Int) / 3 * 3 + l := by omega
              have x3 : (k : Int) / 3 * 3 + l < 9 := by omega
              have x4 : (3 * (l : Int) + (k : Int) % 3).toNat = 3 * l + k % 3 := by omega
              have x5 : 0 ≤ 3 * (l : Int) + (k : Int) % 3 := by omega
              have x6 : 3 * (l : Int) + (k : Int) % 3 < 9 := by omega
              have hla : (a.length : Int) = 9 := by rw [HMa.out]; rfl
              have hlb : (b.length : Int) = 9 := by rw [HMb.out]; rfl
              have e1 : IntKind.i64.wrap (x * y) = x * y := wr64 (by omega) (by omega)
              have e2 : IntKind.i64.wrap (prT a b k l + x * y) = prT a b k l + x * y := wr64 (by omega) (by omega)
              clear hx hy t1 t2
              go_wp2
              go_quiet (fail)
              go_wp2
              go_roundw
              case rel => exact ⟨l + 1, by omega, by go_num, by rw [HY.out], by repeat (with_reducible first | exact Below.refl _ _ | assumption | refine Bel.alloc ?_ _ | refine Bel.step (by assumption) ?_ | refine Below.drew ?_ | refine Bel.drewN ?_ _ | refine Below.setCell ?_ (by first | exact Nat.le_refl _ | omega | (simp; done) | (simp; omega)) _)⟩
              case measure => simp [intOf]; omega
            · obtain rfl : l = 3 := by omega
              have hs3 := hbel2.size
              have hO := Own.step hbel2 HO.out
              have hbel3 := Bel.step hbel2 hbel
              have hl9 : (prL a b k).length ≤ 9 := by rw [HN.out]; omega
              have t1 := HT.out k 3 (by omega)
              clear hbel hbel2 hIa hIb HO
              go_wp2_with (at_builtin; refine wpList_app1 rfl _ _ 43 rfl w.heap.size 2 Try.underlying43 info64 _ _ (prT a b k 3) rfl (Own.alloc _ hO) wr.heap.size rfl (by simp) (by omega) (by simp; omega) ?_; intro v1 w2 hO1 hb2)
              go_roundw
              case rel =>
                have hRR : ∃ l' : Nat, l' ≤ 9 ∧ Value.int .i64 (k + 1) = .int .i64 l' ∧ Own w2 w.heap.size 2 v1 (prL a b l') ∧ Below w.heap.size w w2 := ⟨k + 1, by omega, by go_num, by rw [HS.out]; exact hO1, hbel3.trans ((Below.alloc (Below.refl _ _) hbel3.size _).trans hb2)⟩
                first | exact hRR | ((repeat apply Exists.intro); exact ⟨hRR, rfl⟩)
              case measure => simp [intOf]; omega
        · obtain rfl : k = 9 := by omega
          obtain ⟨A', c', rfl, hcc, hcm, hI', hF⟩ := hO.form
          have hl9 := Lib.hid (prL_len a b 9)
          clear hO hF
          go_wp2_with fail
          refine (l25Reduced_c A' _ _ (prL a b 9) hl9.out hl9.out HG.out HL.out _ hI').mono ?_; rintro e w1 ⟨v, rfl, hO1, hb1⟩
          go_wp2
          go_ret2
          refine ⟨v, by rw [HV.out.1]; rfl, ?_, by repeat (with_reducible first | exact Below.refl _ _ | assumption | refine Bel.alloc ?_ _ | refine Bel.step (by assumption) ?_ | refine Below.drew ?_ | refine Bel.drewN ?_ _ | refine Below.setCell ?_ (by first | exact Nat.le_refl _ | omega | (simp; done) | (simp; omega)) _)⟩
          rw [HV.out.2]
          exact Own.ge_mono hO1 hs
    · have hq' : isPr b = false := by simpa using hq
      have HV := Lib.hid <| show comC a b = 1 ∧ comR a b = [] from by simp [comC, comR, hp, hq']
      clear hq
      go_enter Try.func37, Try.ntmps37
      go_wp2_with fail
      go_at_call 34; refine (IsProjection_S _ _ _ hn _ hA).mono ?_; rintro e w1 ⟨rfl, hb1⟩; obtain ⟨hc1, hf1, hz1⟩ := bel hb1; (try simp only [World.size_drew, World.cell?_drew, World.frozen?_drew] at hc1 hf1 hz1); (try simp only [World.heap_drewN, World.cell?_drewN, World.frozen?_drewN] at hc1 hf1 hz1); (try have hl1 : w.heap.size < w1.heap.size := by (have hq := hb1.size; (try simp at hq); omega)); (try have hm1 : w.heap.size + 1 < w1.heap.size := by (have hq := hb1.size; (try simp at hq); omega)); (try have hn1 : w.heap.size + 1 + 1 < w1.heap.size := by (have hq := hb1.size; (try simp at hq); omega)); (try have hp1 : b < w1.heap.size := by (have hq := hb1.size; (try simp at hq); omega)); (try have ho1 : b' < w1.heap.size := by (have hq := hb1.size; (try simp at hq); omega))
      go_wp2_with fail
      go_at_call 34; refine (IsProjection_S _ _ _ hn' _ (Ints.step hb1 hB)).mono ?_; rintro e w2 ⟨rfl, hb2⟩; obtain ⟨hc2, hf2, hz2⟩ := bel hb2; (try simp only [World.size_drew, World.cell?_drew, World.frozen?_drew] at hc2 hf2 hz2); (try simp only [World.heap_drewN, World.cell?_drewN, World.frozen?_drewN] at hc2 hf2 hz2); (try have hl2 : w.heap.size < w2.heap.size := by (have hq := hb2.size; (try simp at hq); omega)); (try have hm2 : w.heap.size + 1 < w2.heap.size := by (have hq := hb2.size; (try simp at hq); omega)); (try have hn2 : w.heap.size + 1 + 1 < w2.heap.size := by (have hq := hb2.size; (try simp at hq); omega)); (try have hp2 : b < w2.heap.size := by (have hq := hb2.size; (try simp at hq); omega)); (try have ho2 : b' < w2.heap.size := by (have hq := hb2.size; (try simp at hq); omega))
      go_wp2
      go_ret2
      exact ⟨.slice none 0 0, by rw [HV.out.1]; rfl, by rw [HV.out.2]; exact Own.nil _ _ _, by repeat (with_reducible first | exact Below.refl _ _ | assumption | refine Bel.alloc ?_ _ | refine Bel.step (by assumption) ?_ | refine Below.drew ?_ | refine Bel.drewN ?_ _ | refine Below.setCell ?_ (by first | exact Nat.le_refl _ | omega | (simp; done) | (simp; omega)) _)⟩
  · have hp' : isPr a = false := by simpa using hp
    have HV := Lib.hid <| show comC a b = 1 ∧ comR a b = [] from by simp [comC, comR, hp']
    clear hp
    go_enter Try.func37, Try.ntmps37
    go_wp2_with fail
    go_at_call 34; refine (IsProjection_S _ _ _ hn _ hA).mono ?_; rintro e w1 ⟨rfl, hb1⟩; obtain ⟨hc1, hf1, hz1⟩ := bel hb1; (try simp only [World.size_drew, World.cell?_drew, World.frozen?_drew] at hc1 hf1 hz1); (try simp only [World.heap_drewN, World.cell?_drewN, World.frozen?_drewN] at hc1 hf1 hz1); (try have hl1 : w.heap.size < w1.heap.size := by (have hq := hb1.size; (try simp at hq); omega)); (try have hm1 : w.heap.size + 1 < w1.heap.size := by (have hq := hb1.size; (try simp at hq); omega)); (try have hn1 : w.heap.size + 1 + 1 < w1.heap.size := by (have hq := hb1.size; (try simp at hq); omega)); (try have hp1 : b < w1.heap.size := by (have hq := hb1.size; (try simp at hq); omega)); (try have ho1 : b' < w1.heap.size := by (have hq := hb1.size; (try simp at hq); omega))
    go_wp2
    go_ret2
    exact ⟨.slice none 0 0, by rw [HV.out.1]; rfl, by rw [HV.out.2]; exact Own.nil _ _ _, by repeat (with_reducible first | exact Below.refl _ _ | assumption | refine Bel.alloc ?_ _ | refine Bel.step (by assumption) ?_ | refine Below.drew ?_ | refine Bel.drewN ?_ _ | refine Below.setCell ?_ (by first | exact Nat.le_refl _ | omega | (simp; done) | (simp; omega)) _)⟩
/-- The cells while entry e is summed. -/
def acc (a b : List Int) (e l : Nat) : List Int := prL a b e ++ (prT a b e l :: List.replicate (8 - e) 0)
theorem acc_len (a b : List Int) (e l : Nat) (h : e < 9) : (acc a b e l).length = 9 := by simp [acc, prL_len]; omega
theorem acc_get (a b : List Int) (e l : Nat) : (acc a b e l).getD e 0 = prT a b e l := by
  simp [acc, List.getD, List.getElem?_append_right, prL_len]
theorem acc_set (a b : List Int) (e l : Nat) : (acc a b e l).set e (prT a b e (l + 1)) = acc a b e (l + 1) := by
  unfold acc
  rw [List.set_append_right _ _ (by rw [prL_len]; exact Nat.le_refl _), prL_len, Nat.sub_self, List.set_cons_zero]
theorem acc_zero (a b : List Int) (e : Nat) (h : e < 9) : acc a b e 0 = prL a b e ++ List.replicate (9 - e) 0 := by
  have : 9 - e = (8 - e) + 1 := by omega
  rw [acc, this, List.replicate_succ]; rfl
theorem acc_three (a b : List Int) (e : Nat) : acc a b e 3 = prL a b (e + 1) ++ List.replicate (9 - (e + 1)) 0 := by
  rw [acc, prL_step, List.append_assoc, show 9 - (e + 1) = 8 - e by omega]; rfl
set_option maxHeartbeats 1600000 in
theorem ComposeProjections_I (A B : Option Addr) (c d : Nat) (a b : List Int) (hn : a.length ≤ 1048576) (hn' : b.length ≤ 1048576) (w : World) (hA : Ints w A a) (hB : Ints w B b) :
    Calls Try.prog 36 #[.slice A a.length c, .slice B b.length d] w fun e w' => ∃ v, e = .returned (.tuple #[v, .int .i64 (comC a b)]) ∧ Own w' w.heap.size 2 v (comR a b) ∧ Below w.heap.size w w' := by
  by_cases hp : isPr a = true
  · by_cases hq : isPr b = true
    · obtain ⟨p1, p2, p3⟩ := isPr_iff hp
      obtain ⟨q1, q2, q3⟩ := isPr_iff hq
      have HV := Lib.hid <| show comC a b = lowC (prL a b 9) ∧ comR a b = lowL (prL a b 9) from by simp [comC, comR, hp, hq]
      have HBa := Lib.hid (okEnt_bd p1)
      have HBb := Lib.hid (okEnt_bd q1)
      have HMa := Lib.hid p2
      have HMb := Lib.hid q2
      have HG := Lib.hid (pr_gc p3 q3)
      have HL := Lib.hid (prL_mem a b HBa.out HBb.out)
      have HT := Lib.hid (prT_bd a b HBa.out HBb.out)
      have HP := Lib.hid (prod_bd a b HBa.out HBb.out)
      have hmk : ∀ W : World, (Instr.makeSlice 43 (.int .i64 9) (.int .i64 9)).run Try.prog W = .ok (.slice (some ⟨W.heap.size, 0, none⟩) 9 9) (W.alloc (.cells (icells (List.replicate 9 0)) 2)) := fun W => mk64 9 (by omega) W
      clear p1 p2 p3 q1 q2 q3
      go_enter Try.func36, Try.ntmps36
      go_wp2_with fail
      go_at_call 33; refine (IsProjection_I _ _ _ hn _ hA).mono ?_; rintro e w1 ⟨rfl, hb1⟩; obtain ⟨hc1, hf1, hz1⟩ := bel hb1; (try simp only [World.size_drew, World.cell?_drew, World.frozen?_drew] at hc1 hf1 hz1); (try simp only [World.heap_drewN, World.cell?_drewN, World.frozen?_drewN] at hc1 hf1 hz1); (try have hl1 : w.heap.size < w1.heap.size := by (have hq := hb1.size; (try simp at hq); omega)); (try have hm1 : w.heap.size + 1 < w1.heap.size := by (have hq := hb1.size; (try simp at hq); omega)); (try have hn1 : w.heap.size + 1 + 1 < w1.heap.size := by (have hq := hb1.size; (try simp at hq); omega)); (try have hp1 : b < w1.heap.size := by (have hq := hb1.size; (try simp at hq); omega)); (try have ho1 : b' < w1.heap.size := by (have hq := hb1.size; (try simp at hq); omega))
      go_wp2_with fail
      go_at_call 33; refine (IsProjection_I _ _ _ hn' _ (Ints.step hb1 hB)).mono ?_; rintro e w2 ⟨rfl, hb2⟩; obtain ⟨hc2, hf2, hz2⟩ := bel hb2; (try simp only [World.size_drew, World.cell?_drew, World.frozen?_drew] at hc2 hf2 hz2); (try simp only [World.heap_drewN, World.cell?_drewN, World.frozen?_drewN] at hc2 hf2 hz2); (try have hl2 : w.heap.size < w2.heap.size := by (have hq := hb2.size; (try simp at hq); omega)); (try have hm2 : w.heap.size + 1 < w2.heap.size := by (have hq := hb2.size; (try simp at hq); omega)); (try have hn2 : w.heap.size + 1 + 1 < w2.heap.size := by (have hq := hb2.size; (try simp at hq); omega)); (try have hp2 : b < w2.heap.size := by (have hq := hb2.size; (try simp at hq); omega)); (try have ho2 : b' < w2.heap.size := by (have hq := hb2.size; (try simp at hq); omega))
      have hbel2 : Below w.heap.size w w2 := by repeat (with_reducible first | exact Below.refl _ _ | assumption | refine Bel.alloc ?_ _ | refine Bel.step (by assumption) ?_ | refine Below.drew ?_ | refine Bel.drewN ?_ _ | refine Below.setCell ?_ (by first | exact Nat.le_refl _ | omega | (simp; done) | (simp; omega)) _)
      have hs2 := hbel2.size
      clear hb1 hb2 hc1 hf1 hz1 hc2 hf2 hz2
      obtain ⟨g, hg⟩ : ∃ g, g = w2.heap.size := ⟨_, rfl⟩
      go_wp2_with fail
      rw [← hg]
      have hbelS : Below w.heap.size w (w2.alloc (.cells (icells (List.replicate 9 0)) 2)) := by repeat (with_reducible first | exact Below.refl _ _ | assumption | refine Bel.alloc ?_ _ | refine Bel.step (by assumption) ?_ | refine Below.drew ?_ | refine Bel.drewN ?_ _ | refine Below.setCell ?_ (by first | exact Nat.le_refl _ | omega | (simp; done) | (simp; omega)) _)
      have hBS := Blk.new w2 2 (icells (List.replicate 9 0))
      rw [← hg] at hBS
      have hgs : w.heap.size ≤ g := by omega
      clear hbel2 hs2 hg
      go_loopw [7, 8, 9, 19, 22, 25] (fun _ _ _ i _ _ wr => ∃ k : Nat, k ≤ 3 ∧ i = .int .i64 k ∧ Blk wr g 2 (icells (prL a b (3 * k) ++ List.replicate (9 - 3 * k) 0)) ∧ Below w.heap.size w wr) (fun _ _ _ i _ _ _ => 3 - (intOf i).toNat)
      case atStart => exact ⟨0, Nat.zero_le _, rfl, by simpa [prL] using hBS, hbelS⟩
      case round =>
        clear hBS hbelS
        obtain ⟨i, hi, rfl, hBk, hbel⟩ := hrel
        by_cases hlt : i < 3
        · have d1 : decide ((i : Int) < 3) = true := by simp; omega
          obtain ⟨wo, rfl⟩ : ∃ wo : World, wo = wr := ⟨_, rfl⟩
          go_wp2
          go_loopw [8, 9, 22, 25] (fun _ _ k _ wr => ∃ l : Nat, l ≤ 3 ∧ k = .int .i64 l ∧ Blk wr g 2 (icells (prL a b (3 * i + l) ++ List.replicate (9 - (3 * i + l)) 0)) ∧ Below w.heap.size w wr) (fun _ _ k _ _ => 3 - (intOf k).toNat)
          case atStart => exact ⟨0, Nat.zero_le _, rfl, hBk, hbel⟩
          case round =>
            clear hBk hbel
            obtain ⟨k, hk, rfl, hBk, hbel⟩ := hrel
            by_cases hlt2 : k < 3
            · have d2 : decide ((k : Int) < 3) = true := by simp; omega
              obtain ⟨wo2, rfl⟩ : ∃ wo2 : World, wo2 = wr := ⟨_, rfl⟩
              rw [← acc_zero a b (3 * i + k) (by omega)] at hBk
              go_wp2
              go_loopw [9, 25] (fun _ j wr => ∃ l : Nat, l ≤ 3 ∧ j = .int .i64 l ∧ Blk wr g 2 (icells (acc a b (3 * i + k) l)) ∧ Below w.heap.size w wr) (fun _ j _ => 3 - (intOf j).toNat)
              case atStart => exact ⟨0, Nat.zero_le _, rfl, hBk, hbel⟩
              case round =>
                clear hBk hbel
                obtain ⟨l, hl, rfl, hBk, hbel⟩ := hrel
                by_cases hlt3 : l < 3
                · obtain ⟨ba, oa, rfl, hba, hca⟩ := (Ints.step hbel hA).at_ (3 * i + l) (by rw [HMa.out]; omega)
                  obtain ⟨bb, ob, rfl, hbb, hcb⟩ := (Ints.step hbel hB).at_ (3 * l + k) (by rw [HMb.out]; omega)
                  obtain ⟨x, hx⟩ : ∃ x, x = a.getD (3 * i + l) 0 := ⟨_, rfl⟩
                  obtain ⟨y, hy⟩ : ∃ y, y = b.getD (3 * l + k) 0 := ⟨_, rfl⟩
                  rw [← getD_at 0 a _ (by rw [HMa.out]; omega), ← hx] at hca
                  rw [← getD_at 0 b _ (by rw [HMb.out]; omega), ← hy] at hcb
                  have t1 := HT.out (3 * i + k) l (by omega)
                  have t2 := HP.out (3 * i + l) (3 * l + k)
                  rw [← hx, ← hy] at t2
                  have hY : prT a b (3 * i + k) (l + 1) = prT a b (3 * i + k) l + x * y := by
                    rw [prT, show (3 * i + k) / 3 * 3 + l = 3 * i + l by omega, show 3 * l + (3 * i + k) % 3 = 3 * l + k by omega, ← hx, ← hy]
                  have x1 : (3 * (i : Int) + k).toNat = 3 * i + k := by omega
                  have x2 : 0 ≤ 3 * (i : Int) + k := by omega
                  have x3 : 3 * (i : Int) + k < 9 := by omega
                  have x4 : (3 * (i : Int) + l).toNat = 3 * i + l := by omega
                  have x5 : 0 ≤ 3 * (i : Int) + l := by omega
                  have x6 : 3 * (i : Int) + l < 9 := by omega
                  have x7 : (3 * (l : Int) + k).toNat = 3 * l + k := by omega
                  have x8 : 0 ≤ 3 * (l : Int) + k := by omega
                  have x9 : 3 * (l : Int) + k < 9 := by omega
                  have hla : (a.length : Int) = 9 := by rw [HMa.out]; rfl
                  have hlb : (b.length : Int) = 9 := by rw [HMb.out]; rfl
                  have e1 : IntKind.i64.wrap (x * y) = x * y := wr64 (by omega) (by omega)
                  have e2 : IntKind.i64.wrap (prT a b (3 * i + k) l + x * y) = prT a b (3 * i + k) l + x * y := wr64 (by omega) (by omega)
                  have f1 : IntKind.i64.wrap (3 * (i : Int)) = 3 * (i : Int) := wr64 (by omega) (by omega)
                  have f2 : IntKind.i64.wrap (3 * (i : Int) + k) = 3 * (i : Int) + k := wr64 (by omega) (by omega)
                  have f3 : IntKind.i64.wrap (3 * (i : Int) + l) = 3 * (i : Int) + l := wr64 (by omega) (by omega)
                  have f4 : IntKind.i64.wrap (3 * (l : Int)) = 3 * (l : Int) := wr64 (by omega) (by omega)
                  have f5 : IntKind.i64.wrap (3 * (l : Int) + k) = 3 * (l : Int) + k := wr64 (by omega) (by omega)
                  have k0 : wr.cell? ⟨g, 3 * i + k, none⟩ = some (.int .i64 (prT a b (3 * i + k) l)) := by
                    rw [hBk.cell, icells_get _ _ (by rw [acc_len _ _ _ _ (by omega)]; omega), acc_get]
                  have k1 := hBk.frozen (3 * i + k)
                  have hBd := hBk.drew
                  have hB2 := hBd.set_ (3 * i + k) (.int .i64 (prT a b (3 * i + k) l + x * y))
                  rw [icells_set, ← hY, acc_set] at hB2
                  rw [hY] at hB2
                  have HB2 := Lib.hid hB2
                  have hbel2 := (show Below w.heap.size w wr.drew by repeat (with_reducible first | exact Below.refl _ _ | assumption | refine Bel.alloc ?_ _ | refine Bel.step (by assumption) ?_ | refine Below.drew ?_ | refine Bel.drewN ?_ _ | refine Below.setCell ?_ (by first | exact Nat.le_refl _ | omega | (simp; done) | (simp; omega)) _)).setCell (p := ⟨g, 3 * i + k, none⟩) hgs (.int .i64 (prT a b (3 * i + k) l + x * y))
                  clear hx hy t1 t2 hY hB2 hBd
                  go_wp2
                  set_option maxRecDepth 20000 in go_still_tail 24, (by kernel_rfl)
                  go_wp2
                  go_roundw
                  case rel => exact ⟨l + 1, by omega, by go_num, HB2.out, hbel2⟩
                  case measure => simp [intOf]; omega
                · obtain rfl : l = 3 := by omega
                  rw [acc_three] at hBk
                  go_wp2
                  go_roundw
                  case rel => exact ⟨k + 1, by omega, by go_num, hBk, hbel⟩
                  case measure => simp [intOf]; omega
            · obtain rfl : k = 3 := by omega
              go_wp2
              go_roundw
              case rel => exact ⟨i + 1, by omega, by go_num, hBk, hbel⟩
              case measure => simp [intOf]; omega
        · obtain rfl : i = 3 := by omega
          have hBI : Blk wr g 2 (icells (prL a b 9)) := by simpa using hBk
          have hI' := hBI.ints
          have hl9 := Lib.hid (prL_len a b 9)
          have hs := hbel.size
          clear hBk hBI
          go_wp2_with fail
          refine (lowest_c _ _ (prL a b 9) hl9.out HG.out HL.out _ hI').mono ?_; rintro e w1 ⟨v, rfl, hO1, hb1⟩
          go_wp2
          go_ret2
          refine ⟨v, by rw [HV.out.1]; rfl, ?_, by repeat (with_reducible first | exact Below.refl _ _ | assumption | refine Bel.alloc ?_ _ | refine Bel.step (by assumption) ?_ | refine Below.drew ?_ | refine Bel.drewN ?_ _ | refine Below.setCell ?_ (by first | exact Nat.le_refl _ | omega | (simp; done) | (simp; omega)) _)⟩
          rw [HV.out.2]
          exact Own.ge_mono hO1 hs
    · have hq' : isPr b = false := by simpa using hq
      have HV := Lib.hid <| show comC a b = 1 ∧ comR a b = [] from by simp [comC, comR, hp, hq']
      clear hq
      go_enter Try.func36, Try.ntmps36
      go_wp2_with fail
      go_at_call 33; refine (IsProjection_I _ _ _ hn _ hA).mono ?_; rintro e w1 ⟨rfl, hb1⟩; obtain ⟨hc1, hf1, hz1⟩ := bel hb1; (try simp only [World.size_drew, World.cell?_drew, World.frozen?_drew] at hc1 hf1 hz1); (try simp only [World.heap_drewN, World.cell?_drewN, World.frozen?_drewN] at hc1 hf1 hz1); (try have hl1 : w.heap.size < w1.heap.size := by (have hq := hb1.size; (try simp at hq); omega)); (try have hm1 : w.heap.size + 1 < w1.heap.size := by (have hq := hb1.size; (try simp at hq); omega)); (try have hn1 : w.heap.size + 1 + 1 < w1.heap.size := by (have hq := hb1.size; (try simp at hq); omega)); (try have hp1 : b < w1.heap.size := by (have hq := hb1.size; (try simp at hq); omega)); (try have ho1 : b' < w1.heap.size := by (have hq := hb1.size; (try simp at hq); omega))
      go_wp2_with fail
      go_at_call 33; refine (IsProjection_I _ _ _ hn' _ (Ints.step hb1 hB)).mono ?_; rintro e w2 ⟨rfl, hb2⟩; obtain ⟨hc2, hf2, hz2⟩ := bel hb2; (try simp only [World.size_drew, World.cell?_drew, World.frozen?_drew] at hc2 hf2 hz2); (try simp only [World.heap_drewN, World.cell?_drewN, World.frozen?_drewN] at hc2 hf2 hz2); (try have hl2 : w.heap.size < w2.heap.size := by (have hq := hb2.size; (try simp at hq); omega)); (try have hm2 : w.heap.size + 1 < w2.heap.size := by (have hq := hb2.size; (try simp at hq); omega)); (try have hn2 : w.heap.size + 1 + 1 < w2.heap.size := by (have hq := hb2.size; (try simp at hq); omega)); (try have hp2 : b < w2.heap.size := by (have hq := hb2.size; (try simp at hq); omega)); (try have ho2 : b' < w2.heap.size := by (have hq := hb2.size; (try simp at hq); omega))
      go_wp2
      go_ret2
      exact ⟨.slice none 0 0, by rw [HV.out.1]; rfl, by rw [HV.out.2]; exact Own.nil _ _ _, by repeat (with_reducible first | exact Below.refl _ _ | assumption | refine Bel.alloc ?_ _ | refine Bel.step (by assumption) ?_ | refine Below.drew ?_ | refine Bel.drewN ?_ _ | refine Below.setCell ?_ (by first | exact Nat.le_refl _ | omega | (simp; done) | (simp; omega)) _)⟩
  · have hp' : isPr a = false := by simpa using hp
    have HV := Lib.hid <| show comC a b = 1 ∧ comR a b = [] from by simp [comC, comR, hp']
    clear hp
    go_enter Try.func36, Try.ntmps36
    go_wp2_with fail
    go_at_call 33; refine (IsProjection_I _ _ _ hn _ hA).mono ?_; rintro e w1 ⟨rfl, hb1⟩; obtain ⟨hc1, hf1, hz1⟩ := bel hb1; (try simp only [World.size_drew, World.cell?_drew, World.frozen?_drew] at hc1 hf1 hz1); (try simp only [World.heap_drewN, World.cell?_drewN, World.frozen?_drewN] at hc1 hf1 hz1); (try have hl1 : w.heap.size < w1.heap.size := by (have hq := hb1.size; (try simp at hq); omega)); (try have hm1 : w.heap.size + 1 < w1.heap.size := by (have hq := hb1.size; (try simp at hq); omega)); (try have hn1 : w.heap.size + 1 + 1 < w1.heap.size := by (have hq := hb1.size; (try simp at hq); omega)); (try have hp1 : b < w1.heap.size := by (have hq := hb1.size; (try simp at hq); omega)); (try have ho1 : b' < w1.heap.size := by (have hq := hb1.size; (try simp at hq); omega))
    go_wp2
    go_ret2
    exact ⟨.slice none 0 0, by rw [HV.out.1]; rfl, by rw [HV.out.2]; exact Own.nil _ _ _, by repeat (with_reducible first | exact Below.refl _ _ | assumption | refine Bel.alloc ?_ _ | refine Bel.step (by assumption) ?_ | refine Below.drew ?_ | refine Bel.drewN ?_ _ | refine Below.setCell ?_ (by first | exact Nat.le_refl _ | omega | (simp; done) | (simp; omega)) _)⟩
end Go.Proofs.Ythfphjbaglgacaa
