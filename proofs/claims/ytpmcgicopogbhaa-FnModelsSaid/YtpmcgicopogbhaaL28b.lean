/- Chapter 28: lists of tests. Conditions: as stated at each contract. -/
import Derived.Test.YtpmcgicopogbhaaProg
import Derived.Test.YtpmcgicopogbhaaBase
import Derived.Test.YtpmcgicopogbhaaL01
import Derived.Test.YtpmcgicopogbhaaCp
import Derived.Test.YtpmcgicopogbhaaL28
import Derived.WalkKit
import Derived.WalkSpells
import Derived.WalkLawsBesides
import Derived.Lib.Hide
import Derived.Deep.QuietTactic
import Derived.BigQuiet
import Derived.Deep.Draws
import Derived.Deep.RegionHeld3
namespace Go.Proofs.Ytpmcgicopogbhaa
open Go.RowKit
set_option linter.unusedVariables false

def okP (p : Int × Int) : Bool := inB p.1 0 100000 && inB p.2 0 100000
def okT (zs : List (Int × Int)) : Bool := zs.all okP
def noP (p : Int × Int) : Bool := !okP p
theorem any_noP (zs : List (Int × Int)) : zs.any noP = !okT zs := by
  unfold okT
  induction zs with
  | nil => rfl
  | cons p l ih => simp [List.any_cons, List.all_cons, ih, noP]
theorem okP_iff {p : Int × Int} (h : okP p = true) : 0 ≤ p.1 ∧ p.1 ≤ 100000 ∧ 0 ≤ p.2 ∧ p.2 ≤ 100000 := by
  simp only [okP, Bool.and_eq_true, inB_iff] at h; omega
theorem okT_at {zs : List (Int × Int)} (h : okT zs = true) (k : Nat) (hk : k < zs.length) : okP zs[k] = true := by
  unfold okT at h
  exact List.all_eq_true.1 h _ (List.getElem_mem hk)
def codeT (zs : List (Int × Int)) : Int := if okT zs then (if zs.length ≤ 12 then 0 else 3) else 1
theorem codeT_no {zs : List (Int × Int)} (h : okT zs = false) : codeT zs = 1 := by simp [codeT, h]
theorem l28Code_c (A : Option Addr) (c : Nat) (zs : List (Int × Int)) (hn : zs.length ≤ 1048576) (w : World) (hA : Prs w A zs) :
    Calls Try.prog 123 #[.slice A zs.length c] w fun e w' => e = .returned (.int .i64 (codeT zs)) ∧ w = w' := by
  go_enter Try.func123, Try.ntmps123
  go_wp2
  go_loop [3] (fun i => ∃ k : Nat, k ≤ zs.length ∧ i = .int .i64 k ∧ Hid (idxF noP (zs.drop k) k = idxF noP zs 0)) (fun i => zs.length - (intOf i).toNat)
  case atStart => exact ⟨0, Nat.zero_le _, rfl, rfl⟩
  case round =>
    obtain ⟨k, hk, rfl, H⟩ := hrel
    by_cases hlt : k < zs.length
    · obtain ⟨b, o, rfl, hbb, hc1, hc2⟩ := hA.at_ k hlt
      have hs := idxF_step noP zs k hlt
      by_cases h1 : inB zs[k].1 0 100000 = true
      · by_cases h2 : inB zs[k].2 0 100000 = true
        · have HN : Hid (idxF noP (zs.drop (k + 1)) (k + 1) = idxF noP zs 0) := by
            rw [← H.out, hs, if_neg (by simp [noP, okP, h1, h2])]; rfl
          clear hs H
          go_wp2_with (first | (go_at_call 130; refine (l28Place_c _ _).mono ?_; rintro e w' ⟨rfl, rfl⟩))
          go_round
          case rel => exact ⟨k + 1, by omega, by go_num, HN⟩
          case measure => simp [intOf]; omega
        · have HV := Lib.hid <| show codeT zs = 1 from by
            have : zs.any noP = true := by
              rw [← idxF_any noP zs 0, ← H.out, hs, if_pos (by simp [noP, okP, h1, h2])]; simp
            rw [any_noP] at this
            simp at this
            exact codeT_no this
          have h2' : inB zs[k].2 0 100000 = false := by simpa using h2
          clear h2 hs H
          go_wp2_with (first | (go_at_call 130; refine (l28Place_c _ _).mono ?_; rintro e w' ⟨rfl, rfl⟩))
          go_ret
          exact ⟨by rw [HV.out]; rfl, rfl⟩
      · have HV := Lib.hid <| show codeT zs = 1 from by
          have : zs.any noP = true := by
            rw [← idxF_any noP zs 0, ← H.out, hs, if_pos (by simp [noP, okP, h1])]; simp
          rw [any_noP] at this
          simp at this
          exact codeT_no this
        have h1' : inB zs[k].1 0 100000 = false := by simpa using h1
        clear h1 hs H
        go_wp2_with (first | (go_at_call 130; refine (l28Place_c _ _).mono ?_; rintro e w' ⟨rfl, rfl⟩))
        go_ret
        exact ⟨by rw [HV.out]; rfl, rfl⟩
    · obtain rfl : k = zs.length := by omega
      have HO : Hid (okT zs = true) := by
        have : zs.any noP = false := by
          rw [← idxF_any noP zs 0, ← H.out, idxF_end _ _ _ (Nat.le_refl _)]; simp
        rw [any_noP] at this
        have h : okT zs = true := by simpa using this
        exact h
      by_cases h12 : zs.length ≤ 12
      · have h12' : ¬ (12 : Int) < zs.length := by omega
        go_wp2
        go_ret
        exact ⟨ret_int (by simp [codeT, HO.out, h12]), rfl⟩
      · have h12' : (12 : Int) < zs.length := by omega
        go_wp2
        go_ret
        exact ⟨ret_int (by simp [codeT, HO.out, h12]), rfl⟩
theorem checkTests1_c (a b : Int) (w : World) :
    Calls Try.prog 190 #[.agg #[.int .i64 a, .int .i64 b]] w fun e w' => e = .returned (.bool (noP (a, b))) ∧ Below w.heap.size w w' := by
  by_cases h1 : inB a 0 100000 = true
  · go_enter Try.func190, Try.ntmps190
    go_wp2_with (first | (go_at_call 127; refine (isOnRule_c _ _).mono ?_; rintro e w' ⟨rfl, rfl⟩))
    go_ret
    exact ⟨ret_bool (by simp [noP, okP, h1]), by repeat (with_reducible first | exact Below.refl _ _ | assumption | refine Bel.alloc ?_ _ | refine Bel.step (by assumption) ?_ | refine Below.drew ?_ | refine Bel.drewN ?_ _ | refine Below.setCell ?_ (by first | exact Nat.le_refl _ | omega | (simp; done) | (simp; omega)) _)⟩
  · have h1' : inB a 0 100000 = false := by simpa using h1
    clear h1
    go_enter Try.func190, Try.ntmps190
    go_wp2_with (first | (go_at_call 127; refine (isOnRule_c _ _).mono ?_; rintro e w' ⟨rfl, rfl⟩))
    go_ret
    exact ⟨ret_bool (by simp [noP, okP, h1']), by repeat (with_reducible first | exact Below.refl _ _ | assumption | refine Bel.alloc ?_ _ | refine Bel.step (by assumption) ?_ | refine Below.drew ?_ | refine Bel.drewN ?_ _ | refine Below.setCell ?_ (by first | exact Nat.le_refl _ | omega | (simp; done) | (simp; omega)) _)⟩
theorem indexTest_c (A : Option Addr) (c : Nat) (zs : List (Int × Int)) (hn : zs.length ≤ 1048576) (w : World) (hA : Prs w A zs) :
    Calls Try.prog 219 #[.slice A zs.length c, .func (.func 190) #[] #[]] w fun e w' => e = .returned (.int .i64 (idxF noP zs 0)) ∧ Below w.heap.size w w' := by
  go_enter Try.func219, Try.ntmps219
  go_wp2
  go_loopw [5, 8] (fun _ i wr => ∃ k : Nat, k ≤ zs.length ∧ i = .int .i64 k ∧ Hid (idxF noP (zs.drop k) k = idxF noP zs 0) ∧ Below w.heap.size w wr) (fun _ i _ => zs.length - (intOf i).toNat)
  case atStart => exact ⟨0, Nat.zero_le _, rfl, rfl, Below.refl _ _⟩
  case round =>
    obtain ⟨k, hk, rfl, H, hbel⟩ := hrel
    by_cases hlt : k < zs.length
    · obtain ⟨b, o, rfl, hbb, hc1, hc2⟩ := (Prs.step hbel hA).at_ k hlt
      have hs := idxF_step noP zs k hlt
      by_cases h1 : noP zs[k] = true
      · have HV := Lib.hid <| show idxF noP zs 0 = k from by rw [← H.out, hs, if_pos h1]
        have h1' : noP (zs[k].1, zs[k].2) = true := h1
        clear hs H h1
        go_wp2_with (first | (go_at_call 190; refine (checkTests1_c _ _ _).mono ?_; rintro e w1 ⟨rfl, hb1⟩; obtain ⟨hc1, hf1, hz1⟩ := bel hb1; (try simp only [World.size_drew, World.cell?_drew, World.frozen?_drew] at hc1 hf1 hz1); (try simp only [World.heap_drewN, World.cell?_drewN, World.frozen?_drewN] at hc1 hf1 hz1); (try have hl1 : w.heap.size < w1.heap.size := by (have hq := hb1.size; (try simp at hq); omega)); (try have hm1 : w.heap.size + 1 < w1.heap.size := by (have hq := hb1.size; (try simp at hq); omega)); (try have hn1 : w.heap.size + 1 + 1 < w1.heap.size := by (have hq := hb1.size; (try simp at hq); omega)); (try have hp1 : b < w1.heap.size := by (have hq := hb1.size; (try simp at hq); omega)); (try have ho1 : b' < w1.heap.size := by (have hq := hb1.size; (try simp at hq); omega))))
        go_ret
        exact ⟨by rw [HV.out]; rfl, by repeat (with_reducible first | exact Below.refl _ _ | assumption | refine Bel.alloc ?_ _ | refine Bel.step (by assumption) ?_ | refine Below.drew ?_ | refine Bel.drewN ?_ _ | refine Below.setCell ?_ (by first | exact Nat.le_refl _ | omega | (simp; done) | (simp; omega)) _)⟩
      · have HN := Lib.hid <| show idxF noP (zs.drop (k + 1)) (k + 1) = idxF noP zs 0 from by rw [← H.out, hs, if_neg h1]
        have h1' : noP (zs[k].1, zs[k].2) = false := by simpa using h1
        clear hs H h1
        go_wp2_with (first | (go_at_call 190; refine (checkTests1_c _ _ _).mono ?_; rintro e w1 ⟨rfl, hb1⟩; obtain ⟨hc1, hf1, hz1⟩ := bel hb1; (try simp only [World.size_drew, World.cell?_drew, World.frozen?_drew] at hc1 hf1 hz1); (try simp only [World.heap_drewN, World.cell?_drewN, World.frozen?_drewN] at hc1 hf1 hz1); (try have hl1 : w.heap.size < w1.heap.size := by (have hq := hb1.size; (try simp at hq); omega)); (try have hm1 : w.heap.size + 1 < w1.heap.size := by (have hq := hb1.size; (try simp at hq); omega)); (try have hn1 : w.heap.size + 1 + 1 < w1.heap.size := by (have hq := hb1.size; (try simp at hq); omega)); (try have hp1 : b < w1.heap.size := by (have hq := hb1.size; (try simp at hq); omega)); (try have ho1 : b' < w1.heap.size := by (have hq := hb1.size; (try simp at hq); omega))))
        go_roundw
        case rel => exact ⟨k + 1, by omega, by go_num, HN, by repeat (with_reducible first | exact Below.refl _ _ | assumption | refine Bel.alloc ?_ _ | refine Bel.step (by assumption) ?_ | refine Below.drew ?_ | refine Bel.drewN ?_ _ | refine Below.setCell ?_ (by first | exact Nat.le_refl _ | omega | (simp; done) | (simp; omega)) _)⟩
        case measure => simp [intOf]; omega
    · obtain rfl : k = zs.length := by omega
      have HV := Lib.hid <| show idxF noP zs 0 = -1 from by rw [← H.out, idxF_end _ _ _ (Nat.le_refl _)]
      clear H
      go_wp2
      go_ret
      exact ⟨by rw [HV.out]; rfl, hbel⟩
theorem containsTest_c (A : Option Addr) (c : Nat) (zs : List (Int × Int)) (hn : zs.length ≤ 1048576) (w : World) (hA : Prs w A zs) :
    Calls Try.prog 189 #[.slice A zs.length c, .func (.func 190) #[] #[]] w fun e w' => e = .returned (.bool (!okT zs)) ∧ Below w.heap.size w w' := by
  have H := Lib.hid (idxF_any noP zs 0)
  go_enter Try.func189, Try.ntmps189
  go_wp2_with (first | (go_at_call 219; refine (indexTest_c _ _ _ (by omega) _ (by assumption)).mono ?_; rintro e w1 ⟨rfl, hb1⟩; obtain ⟨hc1, hf1, hz1⟩ := bel hb1; (try simp only [World.size_drew, World.cell?_drew, World.frozen?_drew] at hc1 hf1 hz1); (try simp only [World.heap_drewN, World.cell?_drewN, World.frozen?_drewN] at hc1 hf1 hz1); (try have hl1 : w.heap.size < w1.heap.size := by (have hq := hb1.size; (try simp at hq); omega)); (try have hm1 : w.heap.size + 1 < w1.heap.size := by (have hq := hb1.size; (try simp at hq); omega)); (try have hn1 : w.heap.size + 1 + 1 < w1.heap.size := by (have hq := hb1.size; (try simp at hq); omega)); (try have hp1 : b < w1.heap.size := by (have hq := hb1.size; (try simp at hq); omega)); (try have ho1 : b' < w1.heap.size := by (have hq := hb1.size; (try simp at hq); omega))))
  go_ret
  exact ⟨ret_bool (by rw [← any_noP, ← H.out]), by repeat (with_reducible first | exact Below.refl _ _ | assumption | refine Bel.alloc ?_ _ | refine Bel.step (by assumption) ?_ | refine Below.drew ?_ | refine Bel.drewN ?_ _ | refine Below.setCell ?_ (by first | exact Nat.le_refl _ | omega | (simp; done) | (simp; omega)) _)⟩
theorem checkTests_c (A : Option Addr) (c : Nat) (zs : List (Int × Int)) (hn : zs.length ≤ 1048576) (w : World) (hA : Prs w A zs) :
    Calls Try.prog 121 #[.slice A zs.length c] w fun e w' => e = .returned (.int .i64 (codeT zs)) ∧ Below w.heap.size w w' := by
  by_cases h : okT zs = true
  · by_cases h12 : zs.length ≤ 12
    · have h12' : ¬ (12 : Int) < zs.length := by omega
      have HV := Lib.hid <| show codeT zs = 0 from by simp [codeT, h, h12]
      go_enter Try.func121, Try.ntmps121
      go_wp2_with (first | (go_at_call 189; refine (containsTest_c _ _ _ (by omega) _ (by assumption)).mono ?_; rintro e w1 ⟨rfl, hb1⟩; obtain ⟨hc1, hf1, hz1⟩ := bel hb1; (try simp only [World.size_drew, World.cell?_drew, World.frozen?_drew] at hc1 hf1 hz1); (try simp only [World.heap_drewN, World.cell?_drewN, World.frozen?_drewN] at hc1 hf1 hz1); (try have hl1 : w.heap.size < w1.heap.size := by (have hq := hb1.size; (try simp at hq); omega)); (try have hm1 : w.heap.size + 1 < w1.heap.size := by (have hq := hb1.size; (try simp at hq); omega)); (try have hn1 : w.heap.size + 1 + 1 < w1.heap.size := by (have hq := hb1.size; (try simp at hq); omega)); (try have hp1 : b < w1.heap.size := by (have hq := hb1.size; (try simp at hq); omega)); (try have ho1 : b' < w1.heap.size := by (have hq := hb1.size; (try simp at hq); omega))))
      go_ret
      exact ⟨by rw [HV.out]; rfl, by repeat (with_reducible first | exact Below.refl _ _ | assumption | refine Bel.alloc ?_ _ | refine Bel.step (by assumption) ?_ | refine Below.drew ?_ | refine Bel.drewN ?_ _ | refine Below.setCell ?_ (by first | exact Nat.le_refl _ | omega | (simp; done) | (simp; omega)) _)⟩
    · have h12' : (12 : Int) < zs.length := by omega
      have HV := Lib.hid <| show codeT zs = 3 from by simp [codeT, h, h12]
      go_enter Try.func121, Try.ntmps121
      go_wp2_with (first | (go_at_call 189; refine (containsTest_c _ _ _ (by omega) _ (by assumption)).mono ?_; rintro e w1 ⟨rfl, hb1⟩; obtain ⟨hc1, hf1, hz1⟩ := bel hb1; (try simp only [World.size_drew, World.cell?_drew, World.frozen?_drew] at hc1 hf1 hz1); (try simp only [World.heap_drewN, World.cell?_drewN, World.frozen?_drewN] at hc1 hf1 hz1); (try have hl1 : w.heap.size < w1.heap.size := by (have hq := hb1.size; (try simp at hq); omega)); (try have hm1 : w.heap.size + 1 < w1.heap.size := by (have hq := hb1.size; (try simp at hq); omega)); (try have hn1 : w.heap.size + 1 + 1 < w1.heap.size := by (have hq := hb1.size; (try simp at hq); omega)); (try have hp1 : b < w1.heap.size := by (have hq := hb1.size; (try simp at hq); omega)); (try have ho1 : b' < w1.heap.size := by (have hq := hb1.size; (try simp at hq); omega))))
      go_ret
      exact ⟨by rw [HV.out]; rfl, by repeat (with_reducible first | exact Below.refl _ _ | assumption | refine Bel.alloc ?_ _ | refine Bel.step (by assumption) ?_ | refine Below.drew ?_ | refine Bel.drewN ?_ _ | refine Below.setCell ?_ (by first | exact Nat.le_refl _ | omega | (simp; done) | (simp; omega)) _)⟩
  · have h' : okT zs = false := by simpa using h
    have HV := Lib.hid <| codeT_no h'
    clear h
    go_enter Try.func121, Try.ntmps121
    go_wp2_with (first | (go_at_call 189; refine (containsTest_c _ _ _ (by omega) _ (by assumption)).mono ?_; rintro e w1 ⟨rfl, hb1⟩; obtain ⟨hc1, hf1, hz1⟩ := bel hb1; (try simp only [World.size_drew, World.cell?_drew, World.frozen?_drew] at hc1 hf1 hz1); (try simp only [World.heap_drewN, World.cell?_drewN, World.frozen?_drewN] at hc1 hf1 hz1); (try have hl1 : w.heap.size < w1.heap.size := by (have hq := hb1.size; (try simp at hq); omega)); (try have hm1 : w.heap.size + 1 < w1.heap.size := by (have hq := hb1.size; (try simp at hq); omega)); (try have hn1 : w.heap.size + 1 + 1 < w1.heap.size := by (have hq := hb1.size; (try simp at hq); omega)); (try have hp1 : b < w1.heap.size := by (have hq := hb1.size; (try simp at hq); omega)); (try have ho1 : b' < w1.heap.size := by (have hq := hb1.size; (try simp at hq); omega))))
    go_ret
    exact ⟨by rw [HV.out]; rfl, by repeat (with_reducible first | exact Below.refl _ _ | assumption | refine Bel.alloc ?_ _ | refine Bel.step (by assumption) ?_ | refine Below.drew ?_ | refine Bel.drewN ?_ _ | refine Below.setCell ?_ (by first | exact Nat.le_refl _ | omega | (simp; done) | (simp; omega)) _)⟩
/-- The fit of a model. -/
def fitV (s z : Int) (zs : List (Int × Int)) : Int := zs.foldl (fun a p => mx a (Er s z p.1 p.2)) 0
theorem fitV_step (s z : Int) (zs : List (Int × Int)) (k : Nat) (h : k < zs.length) : fitV s z (zs.take (k + 1)) = mx (fitV s z (zs.take k)) (Er s z zs[k].1 zs[k].2) := by
  unfold fitV
  rw [List.take_succ_eq_append_getElem h, List.foldl_append]; rfl
theorem fitV_bd (s z : Int) (zs : List (Int × Int)) (hs1 : -200 ≤ s) (hs2 : s ≤ 200) (hz1 : -100000 ≤ z) (hz2 : z ≤ 100000) (h : okT zs = true) (k : Nat) : 0 ≤ fitV s z (zs.take k) ∧ fitV s z (zs.take k) ≤ 4000000000000 := by
  induction k with
  | zero => simp [fitV]
  | succ k ih =>
    by_cases hk : k < zs.length
    · rw [fitV_step s z zs k hk]
      obtain ⟨a1, a2, a3, a4⟩ := okP_iff (okT_at h k hk)
      obtain ⟨b1, b2⟩ := Er_bd s z zs[k].1 zs[k].2 (by omega) (by omega) (by omega) (by omega) (by omega) (by omega) (by omega) (by omega)
      unfold mx; split <;> omega
    · rw [List.take_of_length_le (by omega)]
      rw [List.take_of_length_le (by omega)] at ih
      exact ih
theorem fitOf_c (s z : Int) (A : Option Addr) (c : Nat) (zs : List (Int × Int)) (hs1 : -200 ≤ s) (hs2 : s ≤ 200) (hz1 : -100000 ≤ z) (hz2 : z ≤ 100000) (hok : okT zs = true) (hn : zs.length ≤ 1048576) (w : World) (hA : Prs w A zs) :
    Calls Try.prog 144 #[.agg #[.int .i64 s, .int .i64 z], .slice A zs.length c] w fun e w' => e = .returned (.int .i64 (fitV s z zs)) ∧ Below w.heap.size w w' := by
  have OK := Lib.hid hok
  clear hok
  go_enter Try.func144, Try.ntmps144
  go_wp2
  go_loopw [5, 7, 10] (fun out _ i wr => ∃ k : Nat, k ≤ zs.length ∧ i = .int .i64 k ∧ out = .int .i64 (fitV s z (zs.take k)) ∧ Blk wr w.heap.size 73 #[.int .i64 s, .int .i64 z] ∧ Below w.heap.size w wr) (fun _ _ i _ => zs.length - (intOf i).toNat)
  case atStart => exact ⟨0, Nat.zero_le _, rfl, rfl, Blk.new _ _ _, by repeat (with_reducible first | exact Below.refl _ _ | assumption | refine Bel.alloc ?_ _ | refine Bel.step (by assumption) ?_ | refine Below.drew ?_ | refine Bel.drewN ?_ _ | refine Below.setCell ?_ (by first | exact Nat.le_refl _ | omega | (simp; done) | (simp; omega)) _)⟩
  case round =>
    obtain ⟨k, hk, rfl, rfl, hB, hbel⟩ := hrel
    have k0 : wr.cell? ⟨w.heap.size, 0, none⟩ = some (.int .i64 s) := by rw [hB.cell]; rfl
    have k1 : wr.cell? ⟨w.heap.size, 1, none⟩ = some (.int .i64 z) := by rw [hB.cell]; rfl
    have klt := hB.lt
    have HB := Lib.hid hB
    clear hB
    obtain ⟨f1, f2⟩ := fitV_bd s z zs hs1 hs2 hz1 hz2 OK.out k
    by_cases hlt : k < zs.length
    · obtain ⟨b, o, rfl, hbb, hc1, hc2⟩ := (Prs.step hbel hA).at_ k hlt
      obtain ⟨a1, a2, a3, a4⟩ := okP_iff (okT_at OK.out k hlt)
      have HS := Lib.hid (fitV_step s z zs k hlt)
      go_wp2_with (first | (go_at_call 128; refine (errorOf_c _ _ _ _ (by omega) (by omega) (by omega) (by omega) (by omega) (by omega) (by omega) (by omega) _).mono ?_; rintro e w1 ⟨rfl, hb1⟩; obtain ⟨hc1, hf1, hz1⟩ := bel hb1; (try simp only [World.size_drew, World.cell?_drew, World.frozen?_drew] at hc1 hf1 hz1); (try simp only [World.heap_drewN, World.cell?_drewN, World.frozen?_drewN] at hc1 hf1 hz1); (try have hl1 : w.heap.size < w1.heap.size := by (have hq := hb1.size; (try simp at hq); omega)); (try have hm1 : w.heap.size + 1 < w1.heap.size := by (have hq := hb1.size; (try simp at hq); omega)); (try have hn1 : w.heap.size + 1 + 1 < w1.heap.size := by (have hq := hb1.size; (try simp at hq); omega)); (try have hp1 : b < w1.heap.size := by (have hq := hb1.size; (try simp at hq); omega)); (try have ho1 : b' < w1.heap.size := by (have hq := hb1.size; (try simp at hq); omega))))
      all_goals
        go_roundw
        case rel => exact ⟨k + 1, by omega, by go_num, by rw [HS.out]; exact congrArg (Value.int .i64) (by unfold mx; split <;> omega), (by repeat (with_reducible first | exact HB.out | assumption | refine Blk.alloc _ ?_ | refine Blk.step (by assumption) ?_ | refine Blk.drew ?_ | refine Blk.drewN _ ?_)), by repeat (with_reducible first | exact Below.refl _ _ | assumption | refine Bel.alloc ?_ _ | refine Bel.step (by assumption) ?_ | refine Below.drew ?_ | refine Bel.drewN ?_ _ | refine Below.setCell ?_ (by first | exact Nat.le_refl _ | omega | (simp; done) | (simp; omega)) _)⟩
        case measure => simp [intOf]; omega
    · obtain rfl : k = zs.length := by omega
      have HV := Lib.hid (show fitV s z (zs.take zs.length) = fitV s z zs by rw [List.take_length])
      go_wp2
      go_ret
      exact ⟨ret_int HV.out, hbel⟩
theorem l28Fit_c (s z : Int) (A : Option Addr) (c : Nat) (zs : List (Int × Int)) (hs1 : -200 ≤ s) (hs2 : s ≤ 200) (hz1 : -100000 ≤ z) (hz2 : z ≤ 100000) (hok : okT zs = true) (hn : zs.length ≤ 1048576) (w : World) (hA : Prs w A zs) :
    Calls Try.prog 191 #[.agg #[.int .i64 s, .int .i64 z], .slice A zs.length c] w fun e w' => e = .returned (.int .i64 (fitV s z zs)) ∧ Below w.heap.size w w' := by
  have OK := Lib.hid hok
  clear hok
  go_enter Try.func191, Try.ntmps191
  go_wp2
  go_loopw [5, 6] (fun out i wr => ∃ k : Nat, k ≤ zs.length ∧ i = .int .i64 k ∧ out = .int .i64 (fitV s z (zs.take k)) ∧ Blk wr w.heap.size 73 #[.int .i64 s, .int .i64 z] ∧ Below w.heap.size w wr) (fun _ i _ => zs.length - (intOf i).toNat)
  case atStart => exact ⟨0, Nat.zero_le _, rfl, rfl, Blk.new _ _ _, by repeat (with_reducible first | exact Below.refl _ _ | assumption | refine Bel.alloc ?_ _ | refine Bel.step (by assumption) ?_ | refine Below.drew ?_ | refine Bel.drewN ?_ _ | refine Below.setCell ?_ (by first | exact Nat.le_refl _ | omega | (simp; done) | (simp; omega)) _)⟩
  case round =>
    obtain ⟨k, hk, rfl, rfl, hB, hbel⟩ := hrel
    have k0 : wr.cell? ⟨w.heap.size, 0, none⟩ = some (.int .i64 s) := by rw [hB.cell]; rfl
    have k1 : wr.cell? ⟨w.heap.size, 1, none⟩ = some (.int .i64 z) := by rw [hB.cell]; rfl
    have klt := hB.lt
    have HB := Lib.hid hB
    clear hB
    obtain ⟨f1, f2⟩ := fitV_bd s z zs hs1 hs2 hz1 hz2 OK.out k
    by_cases hlt : k < zs.length
    · obtain ⟨b, o, rfl, hbb, hc1, hc2⟩ := (Prs.step hbel hA).at_ k hlt
      obtain ⟨a1, a2, a3, a4⟩ := okP_iff (okT_at OK.out k hlt)
      have HS := Lib.hid (fitV_step s z zs k hlt)
      go_wp2
      go_region_held3 (fun w' => w'.cell? ⟨w.heap.size, 0, none⟩ = some (.int .i64 s) ∧ w'.cell? ⟨w.heap.size, 1, none⟩ = some (.int .i64 z) ∧ w'.cell? ⟨b, o + k * 2, none⟩ = some (.int .i64 zs[k].1) ∧ w'.cell? ⟨b, o + k * 2 + 1, none⟩ = some (.int .i64 zs[k].2)) (simp [go_sem, *])
          (first | (go_at_call 132; refine (l28Error_c _ _ _ _ (by omega) (by omega) (by omega) (by omega) (by omega) (by omega) (by omega) (by omega) _).mono ?_; rintro e w1 ⟨rfl, hb1⟩; obtain ⟨hc1, hf1, hz1⟩ := bel hb1; (try simp only [World.size_drew, World.cell?_drew, World.frozen?_drew] at hc1 hf1 hz1); (try simp only [World.heap_drewN, World.cell?_drewN, World.frozen?_drewN] at hc1 hf1 hz1); (try have hl1 : w.heap.size < w1.heap.size := by (have hq := hb1.size; (try simp at hq); omega)); (try have hm1 : w.heap.size + 1 < w1.heap.size := by (have hq := hb1.size; (try simp at hq); omega)); (try have hn1 : w.heap.size + 1 + 1 < w1.heap.size := by (have hq := hb1.size; (try simp at hq); omega)); (try have hp1 : b < w1.heap.size := by (have hq := hb1.size; (try simp at hq); omega)); (try have ho1 : b' < w1.heap.size := by (have hq := hb1.size; (try simp at hq); omega))))
      all_goals
        go_wp2
        go_roundw
        case rel => exact ⟨k + 1, by omega, by go_num, by rw [HS.out]; exact congrArg (Value.int .i64) (by unfold mx; split <;> omega), (by repeat (with_reducible first | exact HB.out | assumption | refine Blk.alloc _ ?_ | refine Blk.step (by assumption) ?_ | refine Blk.drew ?_ | refine Blk.drewN _ ?_)), by repeat (with_reducible first | exact Below.refl _ _ | assumption | refine Bel.alloc ?_ _ | refine Bel.step (by assumption) ?_ | refine Below.drew ?_ | refine Bel.drewN ?_ _ | refine Below.setCell ?_ (by first | exact Nat.le_refl _ | omega | (simp; done) | (simp; omega)) _)⟩
        case measure => simp [intOf]; omega
    · obtain rfl : k = zs.length := by omega
      have HV := Lib.hid (show fitV s z (zs.take zs.length) = fitV s z zs by rw [List.take_length])
      go_wp2
      go_ret
      exact ⟨ret_int HV.out, hbel⟩
def fitOfV (s z : Int) (zs : List (Int × Int)) : Int := if isModel s z && okT zs && decide (zs.length ≤ 12) then fitV s z zs else 0
def fitOfE (s z : Int) (zs : List (Int × Int)) : Int := if isModel s z then codeT zs else 1
theorem codeT_0 {zs : List (Int × Int)} (h : codeT zs = 0) : okT zs = true ∧ zs.length ≤ 12 := by
  unfold codeT at h
  split at h
  · split at h
    · exact ⟨by assumption, by assumption⟩
    · cases h
  · cases h
theorem codeT_ne {zs : List (Int × Int)} (h : codeT zs ≠ 0) : (okT zs && decide (zs.length ≤ 12)) = false := by
  unfold codeT at h
  by_cases h1 : okT zs = true
  · by_cases h2 : zs.length ≤ 12
    · simp [h1, h2] at h
    · simp [h2]
  · simp [h1]
theorem checkModel_c (s z : Int) (A : Option Addr) (c : Nat) (zs : List (Int × Int)) (hn : zs.length ≤ 1048576) (w : World) (hA : Prs w A zs) :
    Calls Try.prog 134 #[.agg #[.int .i64 s, .int .i64 z], .slice A zs.length c] w fun e w' => e = .returned (.int .i64 (fitOfE s z zs)) ∧ Below w.heap.size w w' := by
  by_cases c1 : isModel s z = true
  · have HE := Lib.hid (show fitOfE s z zs = codeT zs by simp [fitOfE, c1])
    go_enter Try.func134, Try.ntmps134
    go_wp2_with fail
    go_at_call 58; refine (isModel_I _ _ _).mono ?_; rintro e w1 ⟨rfl, hb1⟩; obtain ⟨hc1, hf1, hz1⟩ := bel hb1; (try simp only [World.size_drew, World.cell?_drew, World.frozen?_drew] at hc1 hf1 hz1); (try simp only [World.heap_drewN, World.cell?_drewN, World.frozen?_drewN] at hc1 hf1 hz1); (try have hl1 : w.heap.size < w1.heap.size := by (have hq := hb1.size; (try simp at hq); omega)); (try have hm1 : w.heap.size + 1 < w1.heap.size := by (have hq := hb1.size; (try simp at hq); omega)); (try have hn1 : w.heap.size + 1 + 1 < w1.heap.size := by (have hq := hb1.size; (try simp at hq); omega)); (try have hp1 : b < w1.heap.size := by (have hq := hb1.size; (try simp at hq); omega)); (try have ho1 : b' < w1.heap.size := by (have hq := hb1.size; (try simp at hq); omega))
    have hA1 := Prs.step hb1 (Prs.alloc _ hA)
    go_wp2_with fail
    go_at_call 121; refine (checkTests_c _ _ _ hn _ hA1).mono ?_; rintro e w2 ⟨rfl, hb2⟩; obtain ⟨hc2, hf2, hz2⟩ := bel hb2; (try simp only [World.size_drew, World.cell?_drew, World.frozen?_drew] at hc2 hf2 hz2); (try simp only [World.heap_drewN, World.cell?_drewN, World.frozen?_drewN] at hc2 hf2 hz2); (try have hl2 : w.heap.size < w2.heap.size := by (have hq := hb2.size; (try simp at hq); omega)); (try have hm2 : w.heap.size + 1 < w2.heap.size := by (have hq := hb2.size; (try simp at hq); omega)); (try have hn2 : w.heap.size + 1 + 1 < w2.heap.size := by (have hq := hb2.size; (try simp at hq); omega)); (try have hp2 : b < w2.heap.size := by (have hq := hb2.size; (try simp at hq); omega)); (try have ho2 : b' < w2.heap.size := by (have hq := hb2.size; (try simp at hq); omega))
    go_wp2
    go_ret
    exact ⟨ret_int HE.out.symm, by repeat (with_reducible first | exact Below.refl _ _ | assumption | refine Bel.alloc ?_ _ | refine Bel.step (by assumption) ?_ | refine Below.drew ?_ | refine Bel.drewN ?_ _ | refine Below.setCell ?_ (by first | exact Nat.le_refl _ | omega | (simp; done) | (simp; omega)) _)⟩
  · have c1' : isModel s z = false := by simpa using c1
    have HE := Lib.hid (show fitOfE s z zs = 1 by simp [fitOfE, c1'])
    clear c1
    go_enter Try.func134, Try.ntmps134
    go_wp2_with (first | (go_at_call 58; refine (isModel_I _ _ _).mono ?_; rintro e w1 ⟨rfl, hb1⟩; obtain ⟨hc1, hf1, hz1⟩ := bel hb1; (try simp only [World.size_drew, World.cell?_drew, World.frozen?_drew] at hc1 hf1 hz1); (try simp only [World.heap_drewN, World.cell?_drewN, World.frozen?_drewN] at hc1 hf1 hz1); (try have hl1 : w.heap.size < w1.heap.size := by (have hq := hb1.size; (try simp at hq); omega)); (try have hm1 : w.heap.size + 1 < w1.heap.size := by (have hq := hb1.size; (try simp at hq); omega)); (try have hn1 : w.heap.size + 1 + 1 < w1.heap.size := by (have hq := hb1.size; (try simp at hq); omega)); (try have hp1 : b < w1.heap.size := by (have hq := hb1.size; (try simp at hq); omega)); (try have ho1 : b' < w1.heap.size := by (have hq := hb1.size; (try simp at hq); omega))))
    go_ret
    exact ⟨ret_int HE.out.symm, by repeat (with_reducible first | exact Below.refl _ _ | assumption | refine Bel.alloc ?_ _ | refine Bel.step (by assumption) ?_ | refine Below.drew ?_ | refine Bel.drewN ?_ _ | refine Below.setCell ?_ (by first | exact Nat.le_refl _ | omega | (simp; done) | (simp; omega)) _)⟩
theorem FitOf_I (s z : Int) (A : Option Addr) (c : Nat) (zs : List (Int × Int)) (hn : zs.length ≤ 1048576) (w : World) (hA : Prs w A zs) :
    Calls Try.prog 53 #[.agg #[.int .i64 s, .int .i64 z], .slice A zs.length c] w fun e w' => e = .returned (.tuple #[.int .i64 (fitOfV s z zs), .int .i64 (fitOfE s z zs)]) ∧ Below w.heap.size w w' := by
  by_cases c1 : fitOfE s z zs = 0
  · have c2 : isModel s z = true := by
      by_cases h : isModel s z = true
      · exact h
      · simp [fitOfE, h] at c1
    have c3 : codeT zs = 0 := by simpa [fitOfE, c2] using c1
    obtain ⟨c4, c5⟩ := codeT_0 c3
    obtain ⟨a1, a2, a3, a4⟩ := isModel_iff c2
    have HV := Lib.hid (show fitOfV s z zs = fitV s z zs by simp [fitOfV, c2, c4, c5])
    have HE := Lib.hid c1
    clear c2 c3 c1
    go_enter Try.func53, Try.ntmps53
    go_wp2_with fail
    go_at_call 134; refine (checkModel_c _ _ _ _ _ hn _ (Prs.alloc _ hA)).mono ?_; rintro e w1 ⟨rfl, hb1⟩; obtain ⟨hc1, hf1, hz1⟩ := bel hb1; (try simp only [World.size_drew, World.cell?_drew, World.frozen?_drew] at hc1 hf1 hz1); (try simp only [World.heap_drewN, World.cell?_drewN, World.frozen?_drewN] at hc1 hf1 hz1); (try have hl1 : w.heap.size < w1.heap.size := by (have hq := hb1.size; (try simp at hq); omega)); (try have hm1 : w.heap.size + 1 < w1.heap.size := by (have hq := hb1.size; (try simp at hq); omega)); (try have hn1 : w.heap.size + 1 + 1 < w1.heap.size := by (have hq := hb1.size; (try simp at hq); omega)); (try have hp1 : b < w1.heap.size := by (have hq := hb1.size; (try simp at hq); omega)); (try have ho1 : b' < w1.heap.size := by (have hq := hb1.size; (try simp at hq); omega))
    have hA1 := Prs.step hb1 (Prs.alloc _ hA)
    rw [HE.out]
    go_wp2_with fail
    go_at_call 144; refine (fitOf_c _ _ _ _ _ a1 a2 a3 a4 c4 hn _ hA1).mono ?_; rintro e w2 ⟨rfl, hb2⟩; obtain ⟨hc2, hf2, hz2⟩ := bel hb2; (try simp only [World.size_drew, World.cell?_drew, World.frozen?_drew] at hc2 hf2 hz2); (try simp only [World.heap_drewN, World.cell?_drewN, World.frozen?_drewN] at hc2 hf2 hz2); (try have hl2 : w.heap.size < w2.heap.size := by (have hq := hb2.size; (try simp at hq); omega)); (try have hm2 : w.heap.size + 1 < w2.heap.size := by (have hq := hb2.size; (try simp at hq); omega)); (try have hn2 : w.heap.size + 1 + 1 < w2.heap.size := by (have hq := hb2.size; (try simp at hq); omega)); (try have hp2 : b < w2.heap.size := by (have hq := hb2.size; (try simp at hq); omega)); (try have ho2 : b' < w2.heap.size := by (have hq := hb2.size; (try simp at hq); omega))
    go_wp2
    go_ret2
    exact ⟨by rw [HV.out, HE.out]; rfl, by repeat (with_reducible first | exact Below.refl _ _ | assumption | refine Bel.alloc ?_ _ | refine Bel.step (by assumption) ?_ | refine Below.drew ?_ | refine Bel.drewN ?_ _ | refine Below.setCell ?_ (by first | exact Nat.le_refl _ | omega | (simp; done) | (simp; omega)) _)⟩
  · have HV := Lib.hid (show fitOfV s z zs = 0 by
      unfold fitOfV
      by_cases h : isModel s z = true
      · rw [h, Bool.true_and, codeT_ne (by simpa [fitOfE, h] using c1)]; rfl
      · simp [h])
    have b1 : (fitOfE s z zs != 0) = true := by simpa using c1
    clear c1
    go_enter Try.func53, Try.ntmps53
    go_wp2_with fail
    go_at_call 134; refine (checkModel_c _ _ _ _ _ hn _ (Prs.alloc _ hA)).mono ?_; rintro e w3 ⟨rfl, hb3⟩; obtain ⟨hc3, hf3, hz3⟩ := bel hb3; (try simp only [World.size_drew, World.cell?_drew, World.frozen?_drew] at hc3 hf3 hz3); (try simp only [World.heap_drewN, World.cell?_drewN, World.frozen?_drewN] at hc3 hf3 hz3); (try have hl3 : w.heap.size < w3.heap.size := by (have hq := hb3.size; (try simp at hq); omega)); (try have hm3 : w.heap.size + 1 < w3.heap.size := by (have hq := hb3.size; (try simp at hq); omega)); (try have hn3 : w.heap.size + 1 + 1 < w3.heap.size := by (have hq := hb3.size; (try simp at hq); omega)); (try have hp3 : b < w3.heap.size := by (have hq := hb3.size; (try simp at hq); omega)); (try have ho3 : b' < w3.heap.size := by (have hq := hb3.size; (try simp at hq); omega))
    go_wp2
    go_ret2
    exact ⟨by rw [HV.out]; rfl, by repeat (with_reducible first | exact Below.refl _ _ | assumption | refine Bel.alloc ?_ _ | refine Bel.step (by assumption) ?_ | refine Below.drew ?_ | refine Bel.drewN ?_ _ | refine Below.setCell ?_ (by first | exact Nat.le_refl _ | omega | (simp; done) | (simp; omega)) _)⟩
/-- The fit at the shift with number i. -/
def gS (z : Int) (zs : List (Int × Int)) (i : Int) : Int := fitV (i - 200) z zs
theorem gS_bd (z : Int) (zs : List (Int × Int)) (i : Nat) (hi : i < 401) (hz1 : -100000 ≤ z) (hz2 : z ≤ 100000) (h : okT zs = true) : 0 ≤ gS z zs i ∧ gS z zs i ≤ 4000000000000 := by
  have := fitV_bd (i - 200) z zs (by omega) (by omega) hz1 hz2 h zs.length
  rw [List.take_length] at this
  exact this
def shiftV (z : Int) (zs : List (Int × Int)) : Int := (bst (gS z zs) 401 : Nat) - 200
def shiftF (z : Int) (zs : List (Int × Int)) : Int := gS z zs (bst (gS z zs) 401)
theorem l28Shift_c (z : Int) (A : Option Addr) (c : Nat) (zs : List (Int × Int)) (hz1 : -100000 ≤ z) (hz2 : z ≤ 100000) (hok : okT zs = true) (hn : zs.length ≤ 1048576) (w : World) (hA : Prs w A zs) :
    Calls Try.prog 125 #[.slice A zs.length c, .int .i64 z] w fun e w' => e = .returned (.tuple #[.int .i64 (shiftV z zs), .int .i64 (shiftF z zs)]) ∧ Below w.heap.size w w' := by
  go_enter Try.func125, Try.ntmps125
  go_wp2
  go_loopw [6, 7, 8, 9] (fun b l i _ wr => ∃ (k : Nat) (q r : Int), k ≤ 401 ∧ i = .int .i64 (k - 200) ∧ b = .int .i64 q ∧ l = .int .i64 r ∧ Hid ((k = 0 ∧ r = -1) ∨ (0 < k ∧ q = (bst (gS z zs) k : Nat) - 200 ∧ r = gS z zs (bst (gS z zs) k))) ∧ Below w.heap.size w wr) (fun _ _ i _ _ => (201 - intOf i).toNat)
  case atStart => exact ⟨0, 0, -1, by omega, rfl, rfl, rfl, .inl ⟨rfl, rfl⟩, Below.refl _ _⟩
  case round =>
    obtain ⟨k, q, r, hk, rfl, rfl, rfl, H, hbel⟩ := hrel
    have hA1 := Prs.step hbel hA
    by_cases hlt : k < 401
    · have hgk := Lib.hid (show fitV (k - 200) z zs = gS z zs k from rfl)
      by_cases hr : r < 0
      · have hk0 : k = 0 := by
          rcases H.out with h | ⟨h1, h2, h3⟩
          · exact h.1
          · have hq := bst_lt (gS z zs) k
            have h4 := (gS_bd z zs (bst (gS z zs) k) (by omega) hz1 hz2 hok).1
            omega
        have HN : Hid ((k + 1 = 0 ∧ fitV (k - 200) z zs = -1) ∨ (0 < k + 1 ∧ (k : Int) - 200 = (bst (gS z zs) (k + 1) : Nat) - 200 ∧ fitV (k - 200) z zs = gS z zs (bst (gS z zs) (k + 1)))) := by
          have e : bst (gS z zs) (k + 1) = k := by
            subst hk0
            simp [bst]
          rw [e, hgk.out]
          exact .inr ⟨by omega, rfl, rfl⟩
        have b0 : -200 ≤ (k : Int) - 200 := by omega
        clear hk0
        go_wp2_with fail
        go_at_call 191; refine (l28Fit_c _ _ _ _ _ (by omega) (by omega) hz1 hz2 hok hn _ hA1).mono ?_; rintro e w1 ⟨rfl, hb1⟩; obtain ⟨hc1, hf1, hz1⟩ := bel hb1; (try simp only [World.size_drew, World.cell?_drew, World.frozen?_drew] at hc1 hf1 hz1); (try simp only [World.heap_drewN, World.cell?_drewN, World.frozen?_drewN] at hc1 hf1 hz1); (try have hl1 : w.heap.size < w1.heap.size := by (have hq := hb1.size; (try simp at hq); omega)); (try have hm1 : w.heap.size + 1 < w1.heap.size := by (have hq := hb1.size; (try simp at hq); omega)); (try have hn1 : w.heap.size + 1 + 1 < w1.heap.size := by (have hq := hb1.size; (try simp at hq); omega)); (try have hp1 : b < w1.heap.size := by (have hq := hb1.size; (try simp at hq); omega)); (try have ho1 : b' < w1.heap.size := by (have hq := hb1.size; (try simp at hq); omega))
        go_wp2
        go_roundw
        case rel => exact ⟨k + 1, k - 200, fitV (k - 200) z zs, by omega, congrArg (Value.int .i64) (by omega), rfl, rfl, HN, by repeat (with_reducible first | exact Below.refl _ _ | assumption | refine Bel.alloc ?_ _ | refine Bel.step (by assumption) ?_ | refine Below.drew ?_ | refine Bel.drewN ?_ _ | refine Below.setCell ?_ (by first | exact Nat.le_refl _ | omega | (simp; done) | (simp; omega)) _)⟩
        case measure => simp [intOf]; omega
      · have hH : 0 < k ∧ q = (bst (gS z zs) k : Nat) - 200 ∧ r = gS z zs (bst (gS z zs) k) := by
          rcases H.out with h | h
          · omega
          · exact h
        by_cases he : fitV (k - 200) z zs < r
        · have HN : Hid ((k + 1 = 0 ∧ fitV (k - 200) z zs = -1) ∨ (0 < k + 1 ∧ (k : Int) - 200 = (bst (gS z zs) (k + 1) : Nat) - 200 ∧ fitV (k - 200) z zs = gS z zs (bst (gS z zs) (k + 1)))) := by
            rw [bst_yes _ _ (by rw [← hgk.out, ← hH.2.2]; exact he), hgk.out]
            exact .inr ⟨by omega, rfl, rfl⟩
          clear hH
          go_wp2_with fail
          go_at_call 191; refine (l28Fit_c _ _ _ _ _ (by omega) (by omega) hz1 hz2 hok hn _ hA1).mono ?_; rintro e w2 ⟨rfl, hb2⟩; obtain ⟨hc2, hf2, hz2⟩ := bel hb2; (try simp only [World.size_drew, World.cell?_drew, World.frozen?_drew] at hc2 hf2 hz2); (try simp only [World.heap_drewN, World.cell?_drewN, World.frozen?_drewN] at hc2 hf2 hz2); (try have hl2 : w.heap.size < w2.heap.size := by (have hq := hb2.size; (try simp at hq); omega)); (try have hm2 : w.heap.size + 1 < w2.heap.size := by (have hq := hb2.size; (try simp at hq); omega)); (try have hn2 : w.heap.size + 1 + 1 < w2.heap.size := by (have hq := hb2.size; (try simp at hq); omega)); (try have hp2 : b < w2.heap.size := by (have hq := hb2.size; (try simp at hq); omega)); (try have ho2 : b' < w2.heap.size := by (have hq := hb2.size; (try simp at hq); omega))
          go_wp2
          go_roundw
          case rel => exact ⟨k + 1, k - 200, fitV (k - 200) z zs, by omega, congrArg (Value.int .i64) (by omega), rfl, rfl, HN, by repeat (with_reducible first | exact Below.refl _ _ | assumption | refine Bel.alloc ?_ _ | refine Bel.step (by assumption) ?_ | refine Below.drew ?_ | refine Bel.drewN ?_ _ | refine Below.setCell ?_ (by first | exact Nat.le_refl _ | omega | (simp; done) | (simp; omega)) _)⟩
          case measure => simp [intOf]; omega
        · have HN : Hid ((k + 1 = 0 ∧ r = -1) ∨ (0 < k + 1 ∧ q = (bst (gS z zs) (k + 1) : Nat) - 200 ∧ r = gS z zs (bst (gS z zs) (k + 1)))) := by
            rw [bst_no _ _ (by rw [← hgk.out, ← hH.2.2]; omega)]
            exact .inr ⟨by omega, hH.2.1, hH.2.2⟩
          clear hH
          go_wp2_with fail
          go_at_call 191; refine (l28Fit_c _ _ _ _ _ (by omega) (by omega) hz1 hz2 hok hn _ hA1).mono ?_; rintro e w3 ⟨rfl, hb3⟩; obtain ⟨hc3, hf3, hz3⟩ := bel hb3; (try simp only [World.size_drew, World.cell?_drew, World.frozen?_drew] at hc3 hf3 hz3); (try simp only [World.heap_drewN, World.cell?_drewN, World.frozen?_drewN] at hc3 hf3 hz3); (try have hl3 : w.heap.size < w3.heap.size := by (have hq := hb3.size; (try simp at hq); omega)); (try have hm3 : w.heap.size + 1 < w3.heap.size := by (have hq := hb3.size; (try simp at hq); omega)); (try have hn3 : w.heap.size + 1 + 1 < w3.heap.size := by (have hq := hb3.size; (try simp at hq); omega)); (try have hp3 : b < w3.heap.size := by (have hq := hb3.size; (try simp at hq); omega)); (try have ho3 : b' < w3.heap.size := by (have hq := hb3.size; (try simp at hq); omega))
          go_wp2
          go_roundw
          case rel => exact ⟨k + 1, q, r, by omega, congrArg (Value.int .i64) (by omega), rfl, rfl, HN, by repeat (with_reducible first | exact Below.refl _ _ | assumption | refine Bel.alloc ?_ _ | refine Bel.step (by assumption) ?_ | refine Below.drew ?_ | refine Bel.drewN ?_ _ | refine Below.setCell ?_ (by first | exact Nat.le_refl _ | omega | (simp; done) | (simp; omega)) _)⟩
          case measure => simp [intOf]; omega
    · obtain rfl : k = 401 := by omega
      have hH : q = shiftV z zs ∧ r = shiftF z zs := by
        rcases H.out with h | h
        · omega
        · exact h.2
      have HH := Lib.hid hH
      clear hH
      go_wp2
      go_ret2
      exact ⟨by rw [← HH.out.1, ← HH.out.2]; rfl, hbel⟩
theorem bestShift_c (z : Int) (A : Option Addr) (c : Nat) (zs : List (Int × Int)) (hz1 : -100000 ≤ z) (hz2 : z ≤ 100000) (hok : okT zs = true) (hn : zs.length ≤ 1048576) (w : World) (hA : Prs w A zs) :
    Calls Try.prog 122 #[.slice A zs.length c, .int .i64 z] w fun e w' => e = .returned (.tuple #[.agg #[.int .i64 (shiftV z zs), .int .i64 z], .int .i64 (shiftF z zs)]) ∧ Below w.heap.size w w' := by
  have h200 := Lib.hid (show fitV (-200) z zs = gS z zs (bst (gS z zs) 0) from rfl)
  go_enter Try.func122, Try.ntmps122
  go_wp2_with fail
  go_at_call 144; refine (fitOf_c _ _ _ _ _ (by omega) (by omega) hz1 hz2 hok hn _ (Prs.alloc _ (Prs.alloc _ hA))).mono ?_; rintro e w1 ⟨rfl, hb1⟩; obtain ⟨hc1, hf1, hz1⟩ := bel hb1; (try simp only [World.size_drew, World.cell?_drew, World.frozen?_drew] at hc1 hf1 hz1); (try simp only [World.heap_drewN, World.cell?_drewN, World.frozen?_drewN] at hc1 hf1 hz1); (try have hl1 : w.heap.size < w1.heap.size := by (have hq := hb1.size; (try simp at hq); omega)); (try have hm1 : w.heap.size + 1 < w1.heap.size := by (have hq := hb1.size; (try simp at hq); omega)); (try have hn1 : w.heap.size + 1 + 1 < w1.heap.size := by (have hq := hb1.size; (try simp at hq); omega)); (try have hp1 : b < w1.heap.size := by (have hq := hb1.size; (try simp at hq); omega)); (try have ho1 : b' < w1.heap.size := by (have hq := hb1.size; (try simp at hq); omega))
  go_wp2_with fail
  go_loopw [7, 8, 9, 10] (fun l i _ _ wr => ∃ k : Nat, k ≤ 401 ∧ i = .int .i64 (k - 200) ∧ l = .int .i64 (gS z zs (bst (gS z zs) k)) ∧ Blk wr (w.heap.size + 1) 73 #[.int .i64 ((bst (gS z zs) k : Nat) - 200), .int .i64 z] ∧ Blk wr w.heap.size 73 #[.int .i64 0, .int .i64 0] ∧ Below w.heap.size w wr) (fun _ i _ _ _ => (201 - intOf i).toNat)
  case atStart =>
    refine ⟨0, by omega, rfl, by rw [h200.out], ?_, ?_, by repeat (with_reducible first | exact Below.refl _ _ | assumption | refine Bel.alloc ?_ _ | refine Bel.step (by assumption) ?_ | refine Below.drew ?_ | refine Bel.drewN ?_ _ | refine Below.setCell ?_ (by first | exact Nat.le_refl _ | omega | (simp; done) | (simp; omega)) _)⟩
    · have hN := Blk.new (w.alloc (.cells #[.int .i64 0, .int .i64 0] 73)) 73 #[.int .i64 (-200), .int .i64 z]
      simp only [World.size_alloc] at hN
      exact Blk.step hb1 hN
    · exact Blk.step hb1 (Blk.alloc _ (Blk.new _ _ _))
  case round =>
    obtain ⟨k, hk, rfl, rfl, hB, hR, hbel⟩ := hrel
    have HB := Lib.hid hB
    have HR := Lib.hid hR
    have blt := hB.lt
    have rlt := hR.lt
    have hA1 := Prs.step hbel hA
    have hq := bst_lt (gS z zs) k
    clear hb1 hc1 hf1 hz1 h200
    by_cases hlt : k < 401
    · have hgk := Lib.hid (show fitV (k - 200) z zs = gS z zs k from rfl)
      have k0 : wr.cell? ⟨w.heap.size + 1, 0, none⟩ = some (.int .i64 ((bst (gS z zs) k : Nat) - 200)) := by rw [hB.cell]; rfl
      have k1 : wr.cell? ⟨w.heap.size + 1, 1, none⟩ = some (.int .i64 z) := by rw [hB.cell]; rfl
      have f0 := hB.frozen 0
      have f1 := hB.frozen 1
      clear hB hR
      by_cases he : fitV (k - 200) z zs < gS z zs (bst (gS z zs) k)
      · have HY := Lib.hid (bst_yes (gS z zs) k (by rw [← hgk.out]; exact he))
        go_wp2_with fail
        go_at_call 144; refine (fitOf_c _ _ _ _ _ (by omega) (by omega) hz1 hz2 hok hn _ (Prs.alloc _ hA1)).mono ?_; rintro e w2 ⟨rfl, hb2⟩; obtain ⟨hc2, hf2, hz2⟩ := bel hb2; (try simp only [World.size_drew, World.cell?_drew, World.frozen?_drew] at hc2 hf2 hz2); (try simp only [World.heap_drewN, World.cell?_drewN, World.frozen?_drewN] at hc2 hf2 hz2); (try have hl2 : w.heap.size < w2.heap.size := by (have hq := hb2.size; (try simp at hq); omega)); (try have hm2 : w.heap.size + 1 < w2.heap.size := by (have hq := hb2.size; (try simp at hq); omega)); (try have hn2 : w.heap.size + 1 + 1 < w2.heap.size := by (have hq := hb2.size; (try simp at hq); omega)); (try have hp2 : b < w2.heap.size := by (have hq := hb2.size; (try simp at hq); omega)); (try have ho2 : b' < w2.heap.size := by (have hq := hb2.size; (try simp at hq); omega))
        have hB2 := ((Blk.step hb2 (Blk.alloc _ HB.out)).set_ 0 (.int .i64 (k - 200))).set_ 1 (.int .i64 z)
        have hR2 := Blk.far (p := ⟨w.heap.size + 1, 1, none⟩) (.int .i64 z) (by simp) (Blk.far (p := ⟨w.heap.size + 1, 0, none⟩) (.int .i64 (k - 200)) (by simp) (Blk.step hb2 (Blk.alloc _ HR.out)))
        have HB2 := Lib.hid hB2
        have HR2 := Lib.hid hR2
        clear hB2 hR2
        go_wp2
        go_roundw
        case rel =>
          refine ⟨k + 1, by omega, congrArg (Value.int .i64) (by omega), by rw [HY.out, ← hgk.out], ?_, HR2.out, ?_⟩
          · rw [HY.out]; exact HB2.out
          · exact ((Bel.step hb2 (Bel.alloc hbel _)).setCell (by simp) _).setCell (by simp) _
        case measure => simp [intOf]; omega
      · have HN := Lib.hid (bst_no (gS z zs) k (by rw [← hgk.out]; omega))
        go_wp2_with fail
        go_at_call 144; refine (fitOf_c _ _ _ _ _ (by omega) (by omega) hz1 hz2 hok hn _ (Prs.alloc _ hA1)).mono ?_; rintro e w3 ⟨rfl, hb3⟩; obtain ⟨hc3, hf3, hz3⟩ := bel hb3; (try simp only [World.size_drew, World.cell?_drew, World.frozen?_drew] at hc3 hf3 hz3); (try simp only [World.heap_drewN, World.cell?_drewN, World.frozen?_drewN] at hc3 hf3 hz3); (try have hl3 : w.heap.size < w3.heap.size := by (have hq := hb3.size; (try simp at hq); omega)); (try have hm3 : w.heap.size + 1 < w3.heap.size := by (have hq := hb3.size; (try simp at hq); omega)); (try have hn3 : w.heap.size + 1 + 1 < w3.heap.size := by (have hq := hb3.size; (try simp at hq); omega)); (try have hp3 : b < w3.heap.size := by (have hq := hb3.size; (try simp at hq); omega)); (try have ho3 : b' < w3.heap.size := by (have hq := hb3.size; (try simp at hq); omega))
        go_wp2
        go_roundw
        case rel => exact ⟨k + 1, by omega, congrArg (Value.int .i64) (by omega), by rw [HN.out], by rw [HN.out]; exact Blk.step hb3 (Blk.alloc _ HB.out), Blk.step hb3 (Blk.alloc _ HR.out), by repeat (with_reducible first | exact Below.refl _ _ | assumption | refine Bel.alloc ?_ _ | refine Bel.step (by assumption) ?_ | refine Below.drew ?_ | refine Bel.drewN ?_ _ | refine Below.setCell ?_ (by first | exact Nat.le_refl _ | omega | (simp; done) | (simp; omega)) _)⟩
        case measure => simp [intOf]; omega
    · obtain rfl : k = 401 := by omega
      have k0 : wr.cell? ⟨w.heap.size + 1, 0, none⟩ = some (.int .i64 (shiftV z zs)) := by rw [hB.cell]; rfl
      have k1 : wr.cell? ⟨w.heap.size + 1, 1, none⟩ = some (.int .i64 z) := by rw [hB.cell]; rfl
      have r0 : wr.cell? ⟨w.heap.size, 0, none⟩ = some (.int .i64 0) := by rw [hR.cell]; rfl
      have r1 : wr.cell? ⟨w.heap.size, 1, none⟩ = some (.int .i64 0) := by rw [hR.cell]; rfl
      have f0 := hR.frozen 0
      have f1 := hR.frozen 1
      have hV := Lib.hid (show gS z zs (bst (gS z zs) 401) = shiftF z zs from rfl)
      clear hB hR
      go_wp2
      refine bodyPost_ret (v := .tuple #[.agg #[.int .i64 (shiftV z zs), .int .i64 z], .int .i64 (shiftF z zs)]) (by simp [results, Try.results122, go_sem, k0, k1, r0, r1]; exact hV.out) rfl ⟨rfl, ?_⟩
      exact (hbel.setCell (by simp) _).setCell (by simp) _
def bShC (z : Int) (zs : List (Int × Int)) : Int := if codeT zs = 0 then (if inB z (-100000) 100000 then 0 else 2) else codeT zs
def bShV (z : Int) (zs : List (Int × Int)) : Int := if bShC z zs = 0 then shiftV z zs else 0
def bShF (z : Int) (zs : List (Int × Int)) : Int := if bShC z zs = 0 then shiftF z zs else 0
theorem bSh_0 {z : Int} {zs : List (Int × Int)} (h1 : codeT zs = 0) (h2 : inB z (-100000) 100000 = true) : bShC z zs = 0 ∧ bShV z zs = shiftV z zs ∧ bShF z zs = shiftF z zs := by
  have : bShC z zs = 0 := by simp [bShC, h1, h2]
  simp [bShV, bShF, this]
theorem bSh_2 {z : Int} {zs : List (Int × Int)} (h1 : codeT zs = 0) (h2 : inB z (-100000) 100000 = false) : bShC z zs = 2 ∧ bShV z zs = 0 ∧ bShF z zs = 0 := by
  have : bShC z zs = 2 := by simp [bShC, h1, h2]
  simp [bShV, bShF, this]
theorem bSh_n {z : Int} {zs : List (Int × Int)} (h1 : codeT zs ≠ 0) : bShC z zs = codeT zs ∧ bShV z zs = 0 ∧ bShF z zs = 0 := by
  have : bShC z zs = codeT zs := by simp [bShC, h1]
  simp [bShV, bShF, this, h1]
theorem BestShift_I (z : Int) (A : Option Addr) (c : Nat) (zs : List (Int × Int)) (hn : zs.length ≤ 1048576) (w : World) (hA : Prs w A zs) :
    Calls Try.prog 57 #[.slice A zs.length c, .int .i64 z] w fun e w' => e = .returned (.tuple #[.int .i64 (bShV z zs), .int .i64 (bShF z zs), .int .i64 (bShC z zs)]) ∧ Below w.heap.size w w' := by
  by_cases c1 : codeT zs = 0
  · have H0 := Lib.hid c1
    obtain ⟨c4, c5⟩ := codeT_0 c1
    by_cases c2 : inB z (-100000) 100000 = true
    · obtain ⟨b1, b2⟩ := inB_iff.1 c2
      have HV := Lib.hid (bSh_0 c1 c2)
      clear c1
      go_enter Try.func57, Try.ntmps57
      go_wp2_with fail
      refine (checkTests_c _ _ _ hn _ hA).mono ?_; rintro e w1 ⟨rfl, hb1⟩
      have hA1 := Prs.step hb1 hA
      rw [H0.out]
      go_wp2_with (first | (go_at_call 103; refine (within_c _ _ _ _).mono ?_; rintro e w' ⟨rfl, rfl⟩))
      go_wp2_with fail
      refine (bestShift_c _ _ _ _ b1 b2 c4 hn _ hA1).mono ?_; rintro e w2 ⟨rfl, hb2⟩
      go_wp2
      go_ret3
      exact ⟨by rw [HV.out.1, HV.out.2.1, HV.out.2.2]; rfl, by repeat (with_reducible first | exact Below.refl _ _ | assumption | refine Bel.alloc ?_ _ | refine Bel.step (by assumption) ?_ | refine Below.drew ?_ | refine Bel.drewN ?_ _ | refine Below.setCell ?_ (by first | exact Nat.le_refl _ | omega | (simp; done) | (simp; omega)) _)⟩
    · have c2' : inB z (-100000) 100000 = false := by simpa using c2
      have HV := Lib.hid (bSh_2 c1 c2')
      clear c1 c2
      go_enter Try.func57, Try.ntmps57
      go_wp2_with fail
      refine (checkTests_c _ _ _ hn _ hA).mono ?_; rintro e w1 ⟨rfl, hb1⟩
      rw [H0.out]
      go_wp2_with (first | (go_at_call 103; refine (within_c _ _ _ _).mono ?_; rintro e w' ⟨rfl, rfl⟩))
      go_ret3
      exact ⟨by rw [HV.out.1, HV.out.2.1, HV.out.2.2]; rfl, by repeat (with_reducible first | exact Below.refl _ _ | assumption | refine Bel.alloc ?_ _ | refine Bel.step (by assumption) ?_ | refine Below.drew ?_ | refine Bel.drewN ?_ _ | refine Below.setCell ?_ (by first | exact Nat.le_refl _ | omega | (simp; done) | (simp; omega)) _)⟩
  · have HV := Lib.hid (bSh_n (z := z) c1)
    have b1 : (codeT zs != 0) = true := by simpa using c1
    have b2 : (codeT zs == 0) = false := by simpa using c1
    clear c1
    go_enter Try.func57, Try.ntmps57
    go_wp2_with fail
    refine (checkTests_c _ _ _ hn _ hA).mono ?_; rintro e w1 ⟨rfl, hb1⟩
    go_wp2
    go_ret3
    exact ⟨by rw [HV.out.1, HV.out.2.1, HV.out.2.2]; rfl, by repeat (with_reducible first | exact Below.refl _ _ | assumption | refine Bel.alloc ?_ _ | refine Bel.step (by assumption) ?_ | refine Below.drew ?_ | refine Bel.drewN ?_ _ | refine Below.setCell ?_ (by first | exact Nat.le_refl _ | omega | (simp; done) | (simp; omega)) _)⟩
end Go.Proofs.Ytpmcgicopogbhaa
