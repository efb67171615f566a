/- Chapter 25: products and inverses of projections. Conditions: as stated at each contract. -/
import Derived.Test.YthfphjbaglgacaaProg
import Derived.Test.YthfphjbaglgacaaBase
import Derived.Test.YthfphjbaglgacaaL01
import Derived.Test.YthfphjbaglgacaaCp
import Derived.Test.YthfphjbaglgacaaL25
import Derived.Test.YthfphjbaglgacaaL25b
import Derived.WalkKit
import Derived.WalkSpells
import Derived.WalkLawsBesides
import Derived.Lib.Hide
import Derived.Deep.QuietTactic
import Derived.BigQuiet
import Derived.Deep.Draws
import Derived.Deep.RegionHeld3
namespace Go.Proofs.Ythfphjbaglgacaa
open Go.RowKit
set_option linter.unusedVariables false
theorem l25Reduced_c (A : Option Addr) (n c : Nat) (m : List Int) (h9 : m.length = 9) (hn9 : n = 9) (hg : gcL m ≠ 0) (hb : ∀ x ∈ m, -4000000000000000000 ≤ x ∧ x ≤ 4000000000000000000) (w : World) (hA : Ints w A m) :
    Calls Try.prog 98 #[.slice A n c] w fun e w' => ∃ v, e = .returned (.tuple #[v, .int .i64 (lowC m)]) ∧ Own w' w.heap.size 2 v (lowL m) ∧ Below w.heap.size w w' := by
  have hmn : n = m.length := by omega
  subst hmn
  clear hn9
  obtain ⟨g1, g2⟩ := gcL_bd m 4000000000000000000 (by omega) hb 9
  rw [List.take_of_length_le (by omega)] at g1 g2
  have HB := Lib.hid hb
  have H9 := Lib.hid h9
  have hm9 : m.length ≤ 9 := by omega
  clear hb h9
  go_enter Try.func98, Try.ntmps98
  go_wp2
  go_loopw [4, 5] (fun g i wr => ∃ k : Nat, k ≤ m.length ∧ i = .int .i64 k ∧ g = .int .i64 (gcL (m.take k)) ∧ Below w.heap.size w wr) (fun _ i _ => m.length - (intOf i).toNat)
  case atStart => exact ⟨0, Nat.zero_le _, rfl, rfl, Below.refl _ _⟩
  case round =>
    obtain ⟨k, hk, rfl, rfl, hbel⟩ := hrel
    have hA2 := Ints.step hbel hA
    by_cases hlt : k < m.length
    · obtain ⟨b, o, rfl, hbb, hc⟩ := hA2.at_ k hlt
      obtain ⟨x1, x2⟩ := entry_bd HB.out k hlt
      obtain ⟨t1, t2⟩ := gcL_bd m 4000000000000000000 (by omega) HB.out k
      have HS := Lib.hid (gcL_step m k hlt)
      go_wp2_with (first | (go_at_call 152; refine (toB (l01Gcd_c _ _ (by omega) (by omega) (by omega) (by omega) _)).mono ?_; rintro e w1 ⟨rfl, hb1⟩; obtain ⟨hc1, hf1, hz1⟩ := bel hb1; (try simp only [World.size_drew, World.cell?_drew, World.frozen?_drew] at hc1 hf1 hz1); (try simp only [World.heap_drewN, World.cell?_drewN, World.frozen?_drewN] at hc1 hf1 hz1); (try have hl1 : w.heap.size < w1.heap.size := by (have hq := hb1.size; (try simp at hq); omega)); (try have hm1 : w.heap.size + 1 < w1.heap.size := by (have hq := hb1.size; (try simp at hq); omega)); (try have hn1 : w.heap.size + 1 + 1 < w1.heap.size := by (have hq := hb1.size; (try simp at hq); omega)); (try have hp1 : b < w1.heap.size := by (have hq := hb1.size; (try simp at hq); omega)); (try have ho1 : b' < w1.heap.size := by (have hq := hb1.size; (try simp at hq); omega))))
      go_roundw
      case rel => exact ⟨k + 1, by omega, by go_num, by rw [HS.out], by repeat (with_reducible first | exact Below.refl _ _ | assumption | refine Bel.alloc ?_ _ | refine Bel.step (by assumption) ?_ | refine Below.drew ?_ | refine Bel.drewN ?_ _ | refine Below.setCell ?_ (by first | exact Nat.le_refl _ | omega | (simp; done) | (simp; omega)) _)⟩
      case measure => simp [intOf]; omega
    · obtain rfl : k = m.length := by omega
      have hGT := Lib.hid (show gcL (m.take m.length) = gcL m by rw [List.take_length])
      obtain ⟨wo, rfl⟩ : ∃ wo : World, wo = wr := ⟨_, rfl⟩
      have hs0 := hbel.size
      rw [hGT.out]
      go_wp2
      go_loopw [6, 7] (fun v i wr => ∃ k : Nat, k ≤ m.length ∧ i = .int .i64 k ∧ Own wr w.heap.size 2 v ((redM m).take k) ∧ Below w.heap.size w wr) (fun _ i _ => m.length - (intOf i).toNat)
      case atStart => exact ⟨0, Nat.zero_le _, rfl, Own.new _ _ _ hs0, by repeat (with_reducible first | exact Below.refl _ _ | assumption | refine Bel.alloc ?_ _ | refine Bel.step (by assumption) ?_ | refine Below.drew ?_ | refine Bel.drewN ?_ _ | refine Below.setCell ?_ (by first | exact Nat.le_refl _ | omega | (simp; done) | (simp; omega)) _)⟩
      case round =>
        clear hA2 hbel hs0 hlt
        obtain ⟨k, hk, rfl, hO, hbel⟩ := hrel
        have hA2 := Ints.step hbel hA
        have hs := hbel.size
        by_cases hlt : k < m.length
        · obtain ⟨b, o, rfl, hbb, hc⟩ := hA2.at_ k hlt
          obtain ⟨x1, x2⟩ := entry_bd HB.out k hlt
          obtain ⟨t1, t2⟩ := tdiv_bd m[k] (gcL m) 4000000000000000000 x1 x2
          have hR := Lib.hid (redM_take m k hlt)
          have hl9 : ((redM m).take k).length ≤ 9 := by rw [List.length_take, redM_len, H9.out]; omega
          go_wp2_with (at_builtin; refine wpList_app1 rfl _ _ 43 rfl w.heap.size 2 Try.underlying43 info64 _ _ (m[k].tdiv (gcL m)) rfl (Own.alloc _ hO) wr.heap.size rfl (by simp) (by omega) (by simp; omega) ?_; intro v1 w2 hO1 hb2)
          go_roundw
          case rel =>
            have hRR : ∃ l' : Nat, l' ≤ m.length ∧ Value.int .i64 (k + 1) = .int .i64 l' ∧ Own w2 w.heap.size 2 v1 ((redM m).take l') ∧ Below w.heap.size w w2 := ⟨k + 1, by omega, by go_num, by rw [hR.out]; exact hO1, hbel.trans ((Below.alloc (Below.refl _ _) hbel.size _).trans hb2)⟩
            first | exact hRR | ((repeat apply Exists.intro); exact ⟨hRR, rfl⟩)
          case measure => simp [intOf]; omega
        · obtain rfl : k = m.length := by omega
          rw [List.take_of_length_le (by rw [redM_len]; exact Nat.le_refl _)] at hO
          obtain ⟨A', c', rfl, hcc, hcm, hI, hF⟩ := hO.form
          have hl9 : (redM m).length ≤ 9 := by rw [redM_len, H9.out]; omega
          have HO := Lib.hid hO
          by_cases hp : isPr (redM m) = true
          · have HV := Lib.hid <| show lowC m = 0 ∧ lowL m = redM m from by simp [lowC, lowL, hp]
            have HI := Lib.hid hI
            clear hI hF hO
            go_wp2_with fail
            go_at_call 34; refine (IsProjection_S _ _ _ (by omega) _ HI.out).mono ?_; rintro e w1 ⟨rfl, hb1⟩; obtain ⟨hc1, hf1, hz1⟩ := bel hb1; (try simp only [World.size_drew, World.cell?_drew, World.frozen?_drew] at hc1 hf1 hz1); (try simp only [World.heap_drewN, World.cell?_drewN, World.frozen?_drewN] at hc1 hf1 hz1); (try have hl1 : w.heap.size < w1.heap.size := by (have hq := hb1.size; (try simp at hq); omega)); (try have hm1 : w.heap.size + 1 < w1.heap.size := by (have hq := hb1.size; (try simp at hq); omega)); (try have hn1 : w.heap.size + 1 + 1 < w1.heap.size := by (have hq := hb1.size; (try simp at hq); omega)); (try have hp1 : b < w1.heap.size := by (have hq := hb1.size; (try simp at hq); omega)); (try have ho1 : b' < w1.heap.size := by (have hq := hb1.size; (try simp at hq); omega))
            go_wp2
            refine bodyPost_ret (v := .tuple #[.slice A' (redM m).length c', .int .i64 0]) (by simp [results, Try.results98, go_sem]) rfl ⟨_, by rw [HV.out.1], ?_, by repeat (with_reducible first | exact Below.refl _ _ | assumption | refine Bel.alloc ?_ _ | refine Bel.step (by assumption) ?_ | refine Below.drew ?_ | refine Bel.drewN ?_ _ | refine Below.setCell ?_ (by first | exact Nat.le_refl _ | omega | (simp; done) | (simp; omega)) _)⟩
            rw [HV.out.2]
            exact Own.step (by assumption) HO.out
          · have hp' : isPr (redM m) = false := by simpa using hp
            have HV := Lib.hid <| show lowC m = 3 ∧ lowL m = [] from by simp [lowC, lowL, hp']
            have HI := Lib.hid hI
            clear hI hF hO hp
            go_wp2_with fail
            go_at_call 34; refine (IsProjection_S _ _ _ (by omega) _ HI.out).mono ?_; rintro e w2 ⟨rfl, hb2⟩; obtain ⟨hc2, hf2, hz2⟩ := bel hb2; (try simp only [World.size_drew, World.cell?_drew, World.frozen?_drew] at hc2 hf2 hz2); (try simp only [World.heap_drewN, World.cell?_drewN, World.frozen?_drewN] at hc2 hf2 hz2); (try have hl2 : w.heap.size < w2.heap.size := by (have hq := hb2.size; (try simp at hq); omega)); (try have hm2 : w.heap.size + 1 < w2.heap.size := by (have hq := hb2.size; (try simp at hq); omega)); (try have hn2 : w.heap.size + 1 + 1 < w2.heap.size := by (have hq := hb2.size; (try simp at hq); omega)); (try have hp2 : b < w2.heap.size := by (have hq := hb2.size; (try simp at hq); omega)); (try have ho2 : b' < w2.heap.size := by (have hq := hb2.size; (try simp at hq); omega))
            go_wp2
            refine bodyPost_ret (v := .tuple #[.slice none 0 0, .int .i64 3]) (by simp [results, Try.results98, go_sem]) rfl ⟨_, by rw [HV.out.1], ?_, by repeat (with_reducible first | exact Below.refl _ _ | assumption | refine Bel.alloc ?_ _ | refine Bel.step (by assumption) ?_ | refine Below.drew ?_ | refine Bel.drewN ?_ _ | refine Below.setCell ?_ (by first | exact Nat.le_refl _ | omega | (simp; done) | (simp; omega)) _)⟩
            rw [HV.out.2]
            exact Own.nil _ _ _
/-- An entry of the inverse, before it is reduced. -/
def invE (m : List Int) (e : Nat) : Int := if (e / 3 + e % 3) % 2 = 1 then -minV m ((e % 3 : Nat) : Int) ((e / 3 : Nat) : Int) else minV m ((e % 3 : Nat) : Int) ((e / 3 : Nat) : Int)
def invL (m : List Int) (n : Nat) : List Int := (List.range n).map (invE m)
theorem invL_len (m : List Int) (n : Nat) : (invL m n).length = n := by simp [invL]
theorem invL_step (m : List Int) (n : Nat) : invL m (n + 1) = invL m n ++ [invE m n] := by simp [invL, List.range_succ]
theorem invE_bd (m : List Int) (e : Nat) (he : e < 9) (hb : ∀ i, -1000000 ≤ m.getD i 0 ∧ m.getD i 0 ≤ 1000000) : -2000000000000 ≤ invE m e ∧ invE m e ≤ 2000000000000 := by
  have := minV_bd m ((e % 3 : Nat) : Int) ((e / 3 : Nat) : Int) (by omega) (by omega) (by omega) (by omega) hb
  unfold invE; split <;> omega
theorem gcL_zero {zs : List Int} (h : gcL zs = 0) : ∀ x ∈ zs, x = 0 := by
  have key : ∀ k, k ≤ zs.length → gcL (zs.take k) = 0 → ∀ i (hi : i < k) (hl : i < zs.length), zs[i] = 0 := by
    intro k
    induction k with
    | zero => intro _ _ i hi; omega
    | succ k ih =>
      intro hk h0 i hi hl
      rw [gcL_step zs k (by omega)] at h0
      obtain ⟨e1, e2⟩ := Gc_eq_zero h0
      by_cases hik : i = k
      · subst hik; exact e2
      · exact ih (by omega) e1 i (by omega) hl
  intro x hx
  obtain ⟨i, hi, rfl⟩ := List.getElem_of_mem hx
  exact key zs.length (Nat.le_refl _) (by rw [List.take_length]; exact h) i hi hi
theorem invL_at (m : List Int) (n e : Nat) (h : e < n) : invE m e ∈ invL m n := by
  unfold invL; exact List.mem_map.2 ⟨e, List.mem_range.2 h, rfl⟩
theorem inv_gc {m : List Int} (h : detV m ≠ 0) : gcL (invL m 9) ≠ 0 := by
  intro h0
  have z := gcL_zero h0
  have z0 := z _ (invL_at m 9 0 (by omega))
  have z3 := z _ (invL_at m 9 3 (by omega))
  have z6 := z _ (invL_at m 9 6 (by omega))
  simp [invE] at z0 z3 z6
  apply h
  unfold detV
  rw [z0, z3, z6]; simp
theorem invL_mem (m : List Int) (hb : ∀ i, -1000000 ≤ m.getD i 0 ∧ m.getD i 0 ≤ 1000000) : ∀ x ∈ invL m 9, -4000000000000000000 ≤ x ∧ x ≤ 4000000000000000000 := by
  intro x hx
  unfold invL at hx
  obtain ⟨e, he, rfl⟩ := List.mem_map.1 hx
  have := invE_bd m e (List.mem_range.1 he) hb
  omega
def invC (m : List Int) : Int := if isPr m then lowC (invL m 9) else 1
def invR (m : List Int) : List Int := if isPr m then lowL (invL m 9) else []
theorem lowL_len (m : List Int) (h : m.length = 9) : (lowL m).length ≤ 9 := by
  unfold lowL; split
  · rw [redM_len]; omega
  · simp
theorem invR_len (m : List Int) : (invR m).length ≤ 9 := by
  unfold invR; split
  · exact lowL_len _ (invL_len m 9)
  · simp
theorem InverseProjection_S (A : Option Addr) (c : Nat) (m : List Int) (hn : m.length ≤ 1048576) (w : World) (hA : Ints w A m) :
    Calls Try.prog 28 #[.slice A m.length c] w fun e w' => ∃ v, e = .returned (.tuple #[v, .int .i64 (invC m)]) ∧ Own w' w.heap.size 2 v (invR m) ∧ Below w.heap.size w w' := by
  by_cases hp : isPr m = true
  · obtain ⟨p1, p2, p3⟩ := isPr_iff hp
    have HV := Lib.hid <| show invC m = lowC (invL m 9) ∧ invR m = lowL (invL m 9) from by simp [invC, invR, hp]
    have HB := Lib.hid (okEnt_bd p1)
    have HM := Lib.hid p2
    have HG := Lib.hid (inv_gc p3)
    have HL := Lib.hid (invL_mem m HB.out)
    clear p1 p2 p3
    go_enter Try.func28, Try.ntmps28
    go_wp2_with fail
    go_at_call 34; refine (IsProjection_S _ _ _ hn _ hA).mono ?_; rintro e w1 ⟨rfl, hb1⟩; obtain ⟨hc1, hf1, hz1⟩ := bel hb1; (try simp only [World.size_drew, World.cell?_drew, World.frozen?_drew] at hc1 hf1 hz1); (try simp only [World.heap_drewN, World.cell?_drewN, World.frozen?_drewN] at hc1 hf1 hz1); (try have hl1 : w.heap.size < w1.heap.size := by (have hq := hb1.size; (try simp at hq); omega)); (try have hm1 : w.heap.size + 1 < w1.heap.size := by (have hq := hb1.size; (try simp at hq); omega)); (try have hn1 : w.heap.size + 1 + 1 < w1.heap.size := by (have hq := hb1.size; (try simp at hq); omega)); (try have hp1 : b < w1.heap.size := by (have hq := hb1.size; (try simp at hq); omega)); (try have ho1 : b' < w1.heap.size := by (have hq := hb1.size; (try simp at hq); omega))
    have hA1 := Ints.step hb1 hA
    have hs1 := hb1.size
    go_wp2_with fail
    go_loopw [4, 5, 6] (fun v i _ wr => ∃ k : Nat, k ≤ 9 ∧ i = .int .i64 k ∧ Own wr w.heap.size 2 v (invL m k) ∧ Below w.heap.size w wr) (fun _ i _ _ => 9 - (intOf i).toNat)
    case atStart => exact ⟨0, Nat.zero_le _, rfl, Own.new _ _ _ hs1, by repeat (with_reducible first | exact Below.refl _ _ | assumption | refine Bel.alloc ?_ _ | refine Bel.step (by assumption) ?_ | refine Below.drew ?_ | refine Bel.drewN ?_ _ | refine Below.setCell ?_ (by first | exact Nat.le_refl _ | omega | (simp; done) | (simp; omega)) _)⟩
    case round =>
      clear hA1 hs1 hb1 hc1 hf1 hz1
      obtain ⟨k, hk, rfl, hO, hbel⟩ := hrel
      have HI := Lib.hid (Ints.step hbel hA)
      have hs := hbel.size
      by_cases hlt : k < 9
      · have e1 : ((k % 3 : Nat) : Int) = (k : Int) % 3 := by omega
        have e2 : ((k / 3 : Nat) : Int) = (k : Int) / 3 := by omega
        have hS := invL_step m k
        have hl := invL_len m k
        have hbd := invE_bd m k hlt HB.out
        have HO := Lib.hid hO
        by_cases hodd : (k / 3 + k % 3) % 2 = 1
        · have o1 : ((k : Int) / 3 + (k : Int) % 3) % 2 = 1 := by omega
          have b1 : (((k : Int) / 3 + (k : Int) % 3) % 2 == 1) = true := by simp [o1]
          have hE : invE m k = -minV m ((k : Int) % 3) ((k : Int) / 3) := by simp only [invE, hodd, if_true, e1, e2]
          have hS' := Lib.hid <| show invL m (k + 1) = invL m k ++ [-minV m ((k : Int) % 3) ((k : Int) / 3)] from by rw [hS, hE]
          rw [hE] at hbd
          have hl9 : (invL m k).length ≤ 9 := by omega
          clear hS hl hE hO o1 e1 e2
          go_wp2_with fail
          refine (l25Minor_c m _ _ _ _ _ HM.out HM.out (by omega) (by omega) (by omega) (by omega) HB.out _ HI.out).mono ?_; rintro e w1 ⟨rfl, hb1⟩
          obtain ⟨hc1, hf1, hz1⟩ := bel hb1
          have hs1 := hb1.size
          go_wp2_with (at_builtin; refine wpList_app1 rfl _ _ 43 rfl w.heap.size 2 Try.underlying43 info64 _ _ (-minV m ((k : Int) % 3) ((k : Int) / 3)) rfl (Own.alloc _ (Own.step hb1 HO.out)) w1.heap.size rfl (by simp) (by omega) (by simp; omega) ?_; intro v1 w2 hO1 hb2)
          go_roundw
          case rel =>
            have hRR : ∃ l' : Nat, l' ≤ 9 ∧ Value.int .i64 (k + 1) = .int .i64 l' ∧ Own w2 w.heap.size 2 v1 (invL m l') ∧ Below w.heap.size w w2 := ⟨k + 1, by omega, by go_num, by rw [hS'.out]; exact hO1, (Bel.step hb1 hbel).trans ((Below.alloc (Below.refl _ _) (by omega) _).trans hb2)⟩
            first | exact hRR | ((repeat apply Exists.intro); exact ⟨hRR, rfl⟩)
          case measure => simp [intOf]; omega
        · have o1 : ¬ ((k : Int) / 3 + (k : Int) % 3) % 2 = 1 := by omega
          have b1 : (((k : Int) / 3 + (k : Int) % 3) % 2 == 1) = false := by simp [o1]
          have hE : invE m k = minV m ((k : Int) % 3) ((k : Int) / 3) := by simp only [invE, hodd, if_false, e1, e2]
          have hS' := Lib.hid <| show invL m (k + 1) = invL m k ++ [minV m ((k : Int) % 3) ((k : Int) / 3)] from by rw [hS, hE]
          rw [hE] at hbd
          have hl9 : (invL m k).length ≤ 9 := by omega
          clear hS hl hE hO o1 e1 e2
          go_wp2_with fail
          refine (l25Minor_c m _ _ _ _ _ HM.out HM.out (by omega) (by omega) (by omega) (by omega) HB.out _ HI.out).mono ?_; rintro e w1 ⟨rfl, hb1⟩
          obtain ⟨hc1, hf1, hz1⟩ := bel hb1
          have hs1 := hb1.size
          go_wp2_with (at_builtin; refine wpList_app1 rfl _ _ 43 rfl w.heap.size 2 Try.underlying43 info64 _ _ (minV m ((k : Int) % 3) ((k : Int) / 3)) rfl (Own.alloc _ (Own.step hb1 HO.out)) w1.heap.size rfl (by simp) (by omega) (by simp; omega) ?_; intro v1 w2 hO1 hb2)
          go_roundw
          case rel =>
            have hRR : ∃ l' : Nat, l' ≤ 9 ∧ Value.int .i64 (k + 1) = .int .i64 l' ∧ Own w2 w.heap.size 2 v1 (invL m l') ∧ Below w.heap.size w w2 := ⟨k + 1, by omega, by go_num, by rw [hS'.out]; exact hO1, (Bel.step hb1 hbel).trans ((Below.alloc (Below.refl _ _) (by omega) _).trans hb2)⟩
            first | exact hRR | ((repeat apply Exists.intro); exact ⟨hRR, rfl⟩)
          case measure => simp [intOf]; omega
      · obtain rfl : k = 9 := by omega
        obtain ⟨A', c', rfl, hcc, hcm, hI', hF⟩ := hO.form
        have hl9 := Lib.hid (invL_len m 9)
        clear hO hF
        go_wp2_with fail
        refine (l25Reduced_c A' _ _ (invL m 9) hl9.out hl9.out HG.out HL.out _ hI').mono ?_; rintro e w1 ⟨v, rfl, hO1, hb1⟩
        go_wp2
        go_ret2
        refine ⟨v, by rw [HV.out.1]; rfl, ?_, by repeat (with_reducible first | exact Below.refl _ _ | assumption | refine Bel.alloc ?_ _ | refine Bel.step (by assumption) ?_ | refine Below.drew ?_ | refine Bel.drewN ?_ _ | refine Below.setCell ?_ (by first | exact Nat.le_refl _ | omega | (simp; done) | (simp; omega)) _)⟩
        rw [HV.out.2]
        exact Own.ge_mono hO1 hs
  · have hp' : isPr m = false := by simpa using hp
    have HV := Lib.hid <| show invC m = 1 ∧ invR m = [] from by simp [invC, invR, hp']
    clear hp
    go_enter Try.func28, Try.ntmps28
    go_wp2_with fail
    go_at_call 34; refine (IsProjection_S _ _ _ hn _ hA).mono ?_; rintro e w1 ⟨rfl, hb1⟩; obtain ⟨hc1, hf1, hz1⟩ := bel hb1; (try simp only [World.size_drew, World.cell?_drew, World.frozen?_drew] at hc1 hf1 hz1); (try simp only [World.heap_drewN, World.cell?_drewN, World.frozen?_drewN] at hc1 hf1 hz1); (try have hl1 : w.heap.size < w1.heap.size := by (have hq := hb1.size; (try simp at hq); omega)); (try have hm1 : w.heap.size + 1 < w1.heap.size := by (have hq := hb1.size; (try simp at hq); omega)); (try have hn1 : w.heap.size + 1 + 1 < w1.heap.size := by (have hq := hb1.size; (try simp at hq); omega)); (try have hp1 : b < w1.heap.size := by (have hq := hb1.size; (try simp at hq); omega)); (try have ho1 : b' < w1.heap.size := by (have hq := hb1.size; (try simp at hq); omega))
    go_wp2
    go_ret2
    exact ⟨.slice none 0 0, by rw [HV.out.1]; rfl, by rw [HV.out.2]; exact Own.nil _ _ _, by repeat (with_reducible first | exact Below.refl _ _ | assumption | refine Bel.alloc ?_ _ | refine Bel.step (by assumption) ?_ | refine Below.drew ?_ | refine Bel.drewN ?_ _ | refine Below.setCell ?_ (by first | exact Nat.le_refl _ | omega | (simp; done) | (simp; omega)) _)⟩
set_option maxHeartbeats 800000 in
theorem InverseProjection_I (A : Option Addr) (c : Nat) (m : List Int) (hn : m.length ≤ 1048576) (w : World) (hA : Ints w A m) :
    Calls Try.prog 27 #[.slice A m.length c] w fun e w' => ∃ v, e = .returned (.tuple #[v, .int .i64 (invC m)]) ∧ Own w' w.heap.size 2 v (invR m) ∧ Below w.heap.size w w' := by
  by_cases hp : isPr m = true
  · obtain ⟨p1, p2, p3⟩ := isPr_iff hp
    have HV := Lib.hid <| show invC m = lowC (invL m 9) ∧ invR m = lowL (invL m 9) from by simp [invC, invR, hp]
    have HB := Lib.hid (okEnt_bd p1)
    have HM := Lib.hid p2
    have HG := Lib.hid (inv_gc p3)
    have HL := Lib.hid (invL_mem m HB.out)
    have hmk : ∀ W : World, (Instr.makeSlice 43 (.int .i64 9) (.int .i64 9)).run Try.prog W = .ok (.slice (some ⟨W.heap.size, 0, none⟩) 9 9) (W.alloc (.cells (icells (List.replicate 9 0)) 2)) := fun W => mk64 9 (by omega) W
    clear p1 p2 p3
    go_enter Try.func27, Try.ntmps27
    go_wp2_with fail
    go_at_call 33; refine (IsProjection_I _ _ _ hn _ hA).mono ?_; rintro e w1 ⟨rfl, hb1⟩; obtain ⟨hc1, hf1, hz1⟩ := bel hb1; (try simp only [World.size_drew, World.cell?_drew, World.frozen?_drew] at hc1 hf1 hz1); (try simp only [World.heap_drewN, World.cell?_drewN, World.frozen?_drewN] at hc1 hf1 hz1); (try have hl1 : w.heap.size < w1.heap.size := by (have hq := hb1.size; (try simp at hq); omega)); (try have hm1 : w.heap.size + 1 < w1.heap.size := by (have hq := hb1.size; (try simp at hq); omega)); (try have hn1 : w.heap.size + 1 + 1 < w1.heap.size := by (have hq := hb1.size; (try simp at hq); omega)); (try have hp1 : b < w1.heap.size := by (have hq := hb1.size; (try simp at hq); omega)); (try have ho1 : b' < w1.heap.size := by (have hq := hb1.size; (try simp at hq); omega))
    have hs1 := hb1.size
    obtain ⟨g, hg⟩ : ∃ g, g = w1.heap.size := ⟨_, rfl⟩
    go_wp2_with fail
    rw [← hg]
    have hbelS : Below w.heap.size w (w1.alloc (.cells (icells (List.replicate 9 0)) 2)) := by repeat (with_reducible first | exact Below.refl _ _ | assumption | refine Bel.alloc ?_ _ | refine Bel.step (by assumption) ?_ | refine Below.drew ?_ | refine Bel.drewN ?_ _ | refine Below.setCell ?_ (by first | exact Nat.le_refl _ | omega | (simp; done) | (simp; omega)) _)
    have hBS := Blk.new w1 2 (icells (List.replicate 9 0))
    rw [← hg] at hBS
    have hgs : w.heap.size ≤ g := by omega
    clear hb1 hc1 hf1 hz1 hs1 hg
    go_loopw [5, 6, 11, 14] (fun _ _ i _ wr => ∃ k : Nat, k ≤ 3 ∧ i = .int .i64 k ∧ Blk wr g 2 (icells (invL m (3 * k) ++ List.replicate (9 - 3 * k) 0)) ∧ Below w.heap.size w wr) (fun _ _ i _ _ => 3 - (intOf i).toNat)
    case atStart => exact ⟨0, Nat.zero_le _, rfl, by simpa [invL] using hBS, hbelS⟩
    case round =>
      clear hBS hbelS
      obtain ⟨i, hi, rfl, hB, hbel⟩ := hrel
      by_cases hlt : i < 3
      · have d1 : decide ((i : Int) < 3) = true := by simp; omega
        obtain ⟨wo, rfl⟩ : ∃ wo : World, wo = wr := ⟨_, rfl⟩
        go_wp2
        go_loopw [6, 14] (fun _ k wr => ∃ l : Nat, l ≤ 3 ∧ k = .int .i64 l ∧ Blk wr g 2 (icells (invL m (3 * i + l) ++ List.replicate (9 - (3 * i + l)) 0)) ∧ Below w.heap.size w wr) (fun _ k _ => 3 - (intOf k).toNat)
        case atStart => exact ⟨0, Nat.zero_le _, rfl, hB, hbel⟩
        case round =>
          clear hB hbel
          obtain ⟨l, hl, rfl, hB, hbel⟩ := hrel
          by_cases hlt2 : l < 3
          · have HI := Lib.hid (Ints.step hbel hA)
            have hs := hbel.size
            have e1 : (((3 * i + l) % 3 : Nat) : Int) = (l : Int) := by omega
            have e2 : (((3 * i + l) / 3 : Nat) : Int) = (i : Int) := by omega
            have x1 : (3 * (i : Int) + l).toNat = 3 * i + l := by omega
            have x2 : 0 ≤ 3 * (i : Int) + l := by omega
            have x3 : 3 * (i : Int) + l < 9 := by omega
            have hS := invL_step m (3 * i + l)
            have hln := invL_len m (3 * i + l)
            have hbd := minV_bd m l i (by omega) (by omega) (by omega) (by omega) HB.out
            have hF := fun v => fill_set (invL m (3 * i + l)) 9 v (by omega)
            rw [hln] at hF
            by_cases hodd : (i + l) % 2 = 1
            · have o1 : ((i : Int) + l) % 2 = 1 := by omega
              have b1 : (((i : Int) + l) % 2 == 1) = true := by simp [o1]
              have hE : invE m (3 * i + l) = -minV m l i := by
                rw [invE, if_pos (by omega), e1, e2]
              go_wp2_with fail
              refine (minor_c m _ _ _ _ _ HM.out HM.out (by omega) (by omega) (by omega) (by omega) HB.out _ HI.out).mono ?_; rintro e w1 ⟨rfl, hb1⟩
              have hB1 := Blk.step hb1 hB
              have k0 : w1.cell? ⟨g, 3 * i + l, none⟩ = some (.int .i64 ((invL m (3 * i + l) ++ List.replicate (9 - (3 * i + l)) 0).getD (3 * i + l) 0)) := by
                rw [hB1.cell, icells_get _ _ (by simp [hln]; omega)]
              have k1 := hB1.frozen (3 * i + l)
              have hB2 := (hB1.set_ (3 * i + l) (.int .i64 (minV m l i))).set_ (3 * i + l) (.int .i64 (-minV m l i))
              have hS' : invL m (3 * i + l + 1) = invL m (3 * i + l) ++ [-minV m l i] := by rw [hS, hE]
              rw [icells_set, icells_set, List.set_set, hF, ← hS'] at hB2
              have HB2 := Lib.hid hB2
              have hbel2 := (Bel.step hb1 hbel).setCell (p := ⟨g, 3 * i + l, none⟩) hgs (.int .i64 (minV m l i))
              have hbel3 := hbel2.setCell (p := ⟨g, 3 * i + l, none⟩) hgs (.int .i64 (-minV m l i))
              clear hB2 hB1 hB hS hS' hF hE hln e1 e2 o1 hbel2
              go_wp2_with fail
              exact ⟨⟨l + 1, by omega, by go_num, HB2.out, hbel3⟩, by simp [intOf]; omega⟩
            · have o1 : ¬ ((i : Int) + l) % 2 = 1 := by omega
              have b1 : (((i : Int) + l) % 2 == 1) = false := by simp [o1]
              have hE : invE m (3 * i + l) = minV m l i := by
                rw [invE, if_neg (by omega), e1, e2]
              go_wp2_with fail
              refine (minor_c m _ _ _ _ _ HM.out HM.out (by omega) (by omega) (by omega) (by omega) HB.out _ HI.out).mono ?_; rintro e w1 ⟨rfl, hb1⟩
              have hB1 := Blk.step hb1 hB
              have k0 : w1.cell? ⟨g, 3 * i + l, none⟩ = some (.int .i64 ((invL m (3 * i + l) ++ List.replicate (9 - (3 * i + l)) 0).getD (3 * i + l) 0)) := by
                rw [hB1.cell, icells_get _ _ (by simp [hln]; omega)]
              have k1 := hB1.frozen (3 * i + l)
              have hB2 := hB1.set_ (3 * i + l) (.int .i64 (minV m l i))
              have hS' : invL m (3 * i + l + 1) = invL m (3 * i + l) ++ [minV m l i] := by rw [hS, hE]
              rw [icells_set, hF, ← hS'] at hB2
              have HB2 := Lib.hid hB2
              have hbel2 := (Bel.step hb1 hbel).setCell (p := ⟨g, 3 * i + l, none⟩) hgs (.int .i64 (minV m l i))
              clear hB2 hB1 hB hS hS' hF hE hln e1 e2 o1
              go_wp2_with fail
              exact ⟨⟨l + 1, by omega, by go_num, HB2.out, hbel2⟩, by simp [intOf]; omega⟩
          · obtain rfl : l = 3 := by omega
            go_wp2
            go_roundw
            case rel => exact ⟨i + 1, by omega, by go_num, hB, hbel⟩
            case measure => simp [intOf]; omega
      · obtain rfl : i = 3 := by omega
        have hBI : Blk wr g 2 (icells (invL m 9)) := by simpa using hB
        have hI' := hBI.ints
        have hl9 := Lib.hid (invL_len m 9)
        have hs := hbel.size
        clear hB hBI
        go_wp2_with fail
        refine (lowest_c _ _ (invL m 9) hl9.out HG.out HL.out _ hI').mono ?_; rintro e w1 ⟨v, rfl, hO1, hb1⟩
        go_wp2
        go_ret2
        refine ⟨v, by rw [HV.out.1]; rfl, ?_, by repeat (with_reducible first | exact Below.refl _ _ | assumption | refine Bel.alloc ?_ _ | refine Bel.step (by assumption) ?_ | refine Below.drew ?_ | refine Bel.drewN ?_ _ | refine Below.setCell ?_ (by first | exact Nat.le_refl _ | omega | (simp; done) | (simp; omega)) _)⟩
        rw [HV.out.2]
        exact Own.ge_mono hO1 hs
  · have hp' : isPr m = false := by simpa using hp
    have HV := Lib.hid <| show invC m = 1 ∧ invR m = [] from by simp [invC, invR, hp']
    clear hp
    go_enter Try.func27, Try.ntmps27
    go_wp2_with fail
    go_at_call 33; refine (IsProjection_I _ _ _ hn _ hA).mono ?_; rintro e w1 ⟨rfl, hb1⟩; obtain ⟨hc1, hf1, hz1⟩ := bel hb1; (try simp only [World.size_drew, World.cell?_drew, World.frozen?_drew] at hc1 hf1 hz1); (try simp only [World.heap_drewN, World.cell?_drewN, World.frozen?_drewN] at hc1 hf1 hz1); (try have hl1 : w.heap.size < w1.heap.size := by (have hq := hb1.size; (try simp at hq); omega)); (try have hm1 : w.heap.size + 1 < w1.heap.size := by (have hq := hb1.size; (try simp at hq); omega)); (try have hn1 : w.heap.size + 1 + 1 < w1.heap.size := by (have hq := hb1.size; (try simp at hq); omega)); (try have hp1 : b < w1.heap.size := by (have hq := hb1.size; (try simp at hq); omega)); (try have ho1 : b' < w1.heap.size := by (have hq := hb1.size; (try simp at hq); omega))
    go_wp2
    go_ret2
    exact ⟨.slice none 0 0, by rw [HV.out.1]; rfl, by rw [HV.out.2]; exact Own.nil _ _ _, by repeat (with_reducible first | exact Below.refl _ _ | assumption | refine Bel.alloc ?_ _ | refine Bel.step (by assumption) ?_ | refine Below.drew ?_ | refine Bel.drewN ?_ _ | refine Below.setCell ?_ (by first | exact Nat.le_refl _ | omega | (simp; done) | (simp; omega)) _)⟩
end Go.Proofs.Ythfphjbaglgacaa
