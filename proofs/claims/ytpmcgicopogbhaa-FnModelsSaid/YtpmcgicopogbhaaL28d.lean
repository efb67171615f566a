/- Chapter 28: tests that are far off. Conditions: as stated at each contract. -/
import Derived.Test.YtpmcgicopogbhaaProg
import Derived.Test.YtpmcgicopogbhaaBase
import Derived.Test.YtpmcgicopogbhaaL01
import Derived.Test.YtpmcgicopogbhaaCp
import Derived.Test.YtpmcgicopogbhaaL28
import Derived.Test.YtpmcgicopogbhaaL28b
import Derived.WalkKit
import Derived.WalkSpells
import Derived.WalkLawsBesides
import Derived.Lib.Hide
import Derived.Deep.QuietTactic
import Derived.BigQuiet
import Derived.Deep.Draws
import Derived.Deep.RegionHeld3
namespace Go.Proofs.Ytpmcgicopogbhaa
open Go.RowKit
set_option linter.unusedVariables false
/-- The numbers of the tests below k whose error is greater. -/
def faN (s z lim : Int) (zs : List (Int × Int)) : Nat → List Int
  | 0 => []
  | k + 1 => faN s z lim zs k ++ (if lim < Er s z (zs.getD k (0, 0)).1 (zs.getD k (0, 0)).2 then [(k : Int)] else [])
theorem fa_yes (s z lim : Int) (zs : List (Int × Int)) (k : Nat) (h : lim < Er s z (zs.getD k (0, 0)).1 (zs.getD k (0, 0)).2) : faN s z lim zs (k + 1) = faN s z lim zs k ++ [(k : Int)] := by rw [faN, if_pos h]
theorem fa_no (s z lim : Int) (zs : List (Int × Int)) (k : Nat) (h : ¬ lim < Er s z (zs.getD k (0, 0)).1 (zs.getD k (0, 0)).2) : faN s z lim zs (k + 1) = faN s z lim zs k := by rw [faN, if_neg h, List.append_nil]
theorem fa_len (s z lim : Int) (zs : List (Int × Int)) (k : Nat) : (faN s z lim zs k).length ≤ k := by
  induction k with
  | zero => simp [faN]
  | succ k ih => rw [faN, List.length_append]; split <;> simp <;> omega
def farC (s z lim : Int) (zs : List (Int × Int)) : Int := if isModel s z then (if codeT zs = 0 then (if inB lim 0 100000 then 0 else 2) else codeT zs) else 1
def farL (s z lim : Int) (zs : List (Int × Int)) : List Int := if farC s z lim zs = 0 then faN s z lim zs zs.length else []
theorem far_len (s z lim : Int) (zs : List (Int × Int)) : (farL s z lim zs).length ≤ zs.length := by
  unfold farL
  split
  · exact fa_len s z lim zs zs.length
  · simp
theorem far_cases (s z lim : Int) (zs : List (Int × Int)) :
    (isModel s z = true ∧ codeT zs = 0 ∧ inB lim 0 100000 = true ∧ Hid (farC s z lim zs = 0 ∧ farL s z lim zs = faN s z lim zs zs.length)) ∨
    (isModel s z = true ∧ codeT zs = 0 ∧ inB lim 0 100000 = false ∧ Hid (farC s z lim zs = 2 ∧ farL s z lim zs = [])) ∨
    (isModel s z = true ∧ codeT zs ≠ 0 ∧ Hid (farC s z lim zs = codeT zs ∧ farL s z lim zs = [])) ∨
    (isModel s z = false ∧ Hid (farC s z lim zs = 1 ∧ farL s z lim zs = [])) := by
  unfold Hid
  cases h1 : isModel s z with
  | false => exact .inr (.inr (.inr ⟨rfl, by simp [farL, farC, h1]⟩))
  | true =>
    by_cases h2 : codeT zs = 0
    · cases h3 : inB lim 0 100000 with
      | true => exact .inl ⟨rfl, h2, rfl, by simp [farL, farC, h1, h2, h3]⟩
      | false => exact .inr (.inl ⟨rfl, h2, rfl, by simp [farL, farC, h1, h2, h3]⟩)
    · exact .inr (.inr (.inl ⟨rfl, h2, by simp [farL, farC, h1, h2]⟩))
theorem Blk.under {W W' : World} {g B : Nat} {t : TypeId} {cs : Array Value} (hb : Below B W W') (hg : g < B) (h : Blk W g t cs) : Blk W' g t cs := (hb.block g hg).trans h
set_option maxHeartbeats 1000000 in
theorem FarTests_S (s z lim : Int) (A : Option Addr) (c : Nat) (zs : List (Int × Int)) (hn : zs.length ≤ 1048576) (w : World) (hA : Prs w A zs) :
    Calls Try.prog 48 #[.agg #[.int .i64 s, .int .i64 z], .slice A zs.length c, .int .i64 lim] w fun e w' => ∃ A' c', e = .returned (.tuple #[.slice A' (farL s z lim zs).length c', .int .i64 (farC s z lim zs)]) ∧ Own w' w.heap.size 2 (.slice A' (farL s z lim zs).length c') (farL s z lim zs) ∧ Below w.heap.size w w' := by
  rcases far_cases s z lim zs with ⟨h1, h2, h3, HV⟩ | ⟨h1, h2, h3, HV⟩ | ⟨h1, h2, HV⟩ | ⟨h1, HV⟩
  · obtain ⟨c4, c5⟩ := codeT_0 h2
    obtain ⟨a1, a2, a3, a4⟩ := isModel_iff h1
    obtain ⟨l1, l2⟩ := inB_iff.1 h3
    have H0 := Lib.hid h2
    have OK := Lib.hid c4
    clear h2 c4
    rw [HV.out.1, HV.out.2]
    go_enter Try.func48, Try.ntmps48
    go_wp2_with fail
    go_at_call 123; refine (l28Code_c _ _ _ hn _ (Prs.alloc _ hA)).mono ?_; rintro e w' ⟨rfl, rfl⟩
    rw [H0.out]
    go_wp2_with (first | (go_at_call 129; refine (isModel_S _ _ _).mono ?_; rintro e w1 ⟨rfl, hb1⟩; obtain ⟨hc1, hf1, hz1⟩ := bel hb1; (try simp only [World.size_drew, World.cell?_drew, World.frozen?_drew] at hc1 hf1 hz1); (try simp only [World.heap_drewN, World.cell?_drewN, World.frozen?_drewN] at hc1 hf1 hz1); (try have hl1 : w.heap.size < w1.heap.size := by (have hq := hb1.size; (try simp at hq); omega)); (try have hm1 : w.heap.size + 1 < w1.heap.size := by (have hq := hb1.size; (try simp at hq); omega)); (try have hn1 : w.heap.size + 1 + 1 < w1.heap.size := by (have hq := hb1.size; (try simp at hq); omega)); (try have hp1 : b < w1.heap.size := by (have hq := hb1.size; (try simp at hq); omega)); (try have ho1 : b' < w1.heap.size := by (have hq := hb1.size; (try simp at hq); omega))) | (go_at_call 130; refine (l28Place_c _ _).mono ?_; rintro e w' ⟨rfl, rfl⟩))
    go_loopw [9, 10] (fun v i wr => ∃ k : Nat, k ≤ zs.length ∧ i = .int .i64 k ∧ Own wr (w.heap.size + 1) 2 v (faN s z lim zs k) ∧ Blk wr w.heap.size 73 #[.int .i64 s, .int .i64 z] ∧ Below w.heap.size w wr) (fun _ i _ => zs.length - (intOf i).toNat)
    case atStart => exact ⟨0, Nat.zero_le _, rfl, Own.new _ _ _ (by have := hb1.size; simp at this; omega), Blk.alloc _ (Blk.step hb1 (Blk.new _ _ _)), by repeat (with_reducible first | exact Below.refl _ _ | assumption | refine Bel.alloc ?_ _ | refine Bel.step (by assumption) ?_ | refine Below.drew ?_ | refine Bel.drewN ?_ _ | refine Below.setCell ?_ (by first | exact Nat.le_refl _ | omega | (simp; done) | (simp; omega)) _)⟩
    case round =>
      obtain ⟨k, hk, rfl, hO, hB, hbel⟩ := hrel
      have k0 : wr.cell? ⟨w.heap.size, 0, none⟩ = some (.int .i64 s) := by rw [hB.cell]; rfl
      have k1 : wr.cell? ⟨w.heap.size, 1, none⟩ = some (.int .i64 z) := by rw [hB.cell]; rfl
      have klt := hB.lt
      have HB := Lib.hid hB
      clear hB hb1 hc1 hf1 hz1 h1 h3
      have hL := fa_len s z lim zs k
      by_cases hlt : k < zs.length
      · obtain ⟨b, o, rfl, hbb, hc1, hc2⟩ := (Prs.step hbel hA).at_ k hlt
        obtain ⟨t1, t2, t3, t4⟩ := okP_iff (okT_at OK.out k hlt)
        have HY := Lib.hid (fa_yes s z lim zs k)
        have HN := Lib.hid (fa_no s z lim zs k)
        rw [getD_at _ _ _ hlt] at HY HN
        obtain ⟨x, hx⟩ : ∃ x, x = zs[k].1 := ⟨_, rfl⟩
        obtain ⟨y, hy⟩ : ∃ y, y = zs[k].2 := ⟨_, rfl⟩
        rw [← hx] at hc1 t1 t2 HY HN
        rw [← hy] at hc2 t3 t4 HY HN
        clear hx hy
        by_cases he : lim < Er s z x y
        · have HE := Lib.hid (HY.out he)
          go_wp2
          go_region_held3 (fun w' => w'.cell? ⟨w.heap.size, 0, none⟩ = some (.int .i64 s) ∧ w'.cell? ⟨w.heap.size, 1, none⟩ = some (.int .i64 z) ∧ w'.cell? ⟨b, o + k * 2, none⟩ = some (.int .i64 x) ∧ w'.cell? ⟨b, o + k * 2 + 1, none⟩ = some (.int .i64 y)) (simp [go_sem, *])
              (first | (go_at_call 132; refine (l28Error_c _ _ _ _ (by omega) (by omega) (by omega) (by omega) (by omega) (by omega) (by omega) (by omega) _).mono ?_; rintro e wx ⟨rfl, hbx⟩; obtain ⟨hcx, hfx, hzx⟩ := bel hbx; (try simp only [World.size_drew, World.cell?_drew, World.frozen?_drew] at hcx hfx hzx); (try simp only [World.heap_drewN, World.cell?_drewN, World.frozen?_drewN] at hcx hfx hzx); (try have hlx : w.heap.size < wx.heap.size := by (have hq := hbx.size; (try simp at hq); omega)); (try have hmx : w.heap.size + 1 < wx.heap.size := by (have hq := hbx.size; (try simp at hq); omega)); (try have hnx : w.heap.size + 1 + 1 < wx.heap.size := by (have hq := hbx.size; (try simp at hq); omega)); (try have hpx : b < wx.heap.size := by (have hq := hbx.size; (try simp at hq); omega)); (try have hox : b' < wx.heap.size := by (have hq := hbx.size; (try simp at hq); omega))))
          have hbx2 : Below wr.heap.size wr wx := by repeat (with_reducible first | exact Below.refl _ _ | assumption | refine Bel.alloc ?_ _ | refine Bel.step (by assumption) ?_ | refine Below.drew ?_ | refine Bel.drewN ?_ _ | refine Below.setCell ?_ (by first | exact Nat.le_refl _ | omega | (simp; done) | (simp; omega)) _)
          have hbelx := Bel.step hbx2 hbel
          go_wp2_with (at_builtin; refine wpList_app1 rfl _ _ 26 rfl (w.heap.size + 1) 2 Try.underlying26 info64 _ _ (k : Int) rfl (Own.alloc _ (Own.step hbx2 hO)) wx.heap.size rfl (by simp) (by omega) (by have := hbx2.size; simp; omega) ?_; intro v1 w1 hO1 hb1)
          go_roundw
          case rel => exact ⟨k + 1, by omega, by go_num, by rw [HE.out]; exact hO1, Blk.under hb1 (by omega) (Blk.alloc _ (Blk.step hbx2 HB.out)), hbelx.trans ((Below.alloc (Below.refl _ _) hbelx.size _).trans (hb1.mono (by omega)))⟩
          case measure => simp [intOf]; omega
        · have HE := Lib.hid (HN.out he)
          go_wp2
          go_region_held3 (fun w' => w'.cell? ⟨w.heap.size, 0, none⟩ = some (.int .i64 s) ∧ w'.cell? ⟨w.heap.size, 1, none⟩ = some (.int .i64 z) ∧ w'.cell? ⟨b, o + k * 2, none⟩ = some (.int .i64 x) ∧ w'.cell? ⟨b, o + k * 2 + 1, none⟩ = some (.int .i64 y)) (simp [go_sem, *])
              (first | (go_at_call 132; refine (l28Error_c _ _ _ _ (by omega) (by omega) (by omega) (by omega) (by omega) (by omega) (by omega) (by omega) _).mono ?_; rintro e wx ⟨rfl, hbx⟩; obtain ⟨hcx, hfx, hzx⟩ := bel hbx; (try simp only [World.size_drew, World.cell?_drew, World.frozen?_drew] at hcx hfx hzx); (try simp only [World.heap_drewN, World.cell?_drewN, World.frozen?_drewN] at hcx hfx hzx); (try have hlx : w.heap.size < wx.heap.size := by (have hq := hbx.size; (try simp at hq); omega)); (try have hmx : w.heap.size + 1 < wx.heap.size := by (have hq := hbx.size; (try simp at hq); omega)); (try have hnx : w.heap.size + 1 + 1 < wx.heap.size := by (have hq := hbx.size; (try simp at hq); omega)); (try have hpx : b < wx.heap.size := by (have hq := hbx.size; (try simp at hq); omega)); (try have hox : b' < wx.heap.size := by (have hq := hbx.size; (try simp at hq); omega))))
          have hbx2 : Below wr.heap.size wr wx := by repeat (with_reducible first | exact Below.refl _ _ | assumption | refine Bel.alloc ?_ _ | refine Bel.step (by assumption) ?_ | refine Below.drew ?_ | refine Bel.drewN ?_ _ | refine Below.setCell ?_ (by first | exact Nat.le_refl _ | omega | (simp; done) | (simp; omega)) _)
          go_wp2
          go_roundw
          case rel => exact ⟨k + 1, by omega, by go_num, by rw [HE.out]; exact Own.step hbx2 hO, Blk.step hbx2 HB.out, Bel.step hbx2 hbel⟩
          case measure => simp [intOf]; omega
      · obtain rfl : k = zs.length := by omega
        obtain ⟨A', c', rfl, _, _, _, _⟩ := hO.form
        go_wp2
        go_ret2
        exact ⟨A', c', rfl, Own.ge_mono hO (by omega), hbel⟩
  · have H0 := Lib.hid h2
    clear h2
    rw [HV.out.1, HV.out.2]
    go_enter Try.func48, Try.ntmps48
    go_wp2_with fail
    go_at_call 123; refine (l28Code_c _ _ _ hn _ (Prs.alloc _ hA)).mono ?_; rintro e w' ⟨rfl, rfl⟩
    rw [H0.out]
    go_wp2_with (first | (go_at_call 129; refine (isModel_S _ _ _).mono ?_; rintro e w1 ⟨rfl, hb1⟩; obtain ⟨hc1, hf1, hz1⟩ := bel hb1; (try simp only [World.size_drew, World.cell?_drew, World.frozen?_drew] at hc1 hf1 hz1); (try simp only [World.heap_drewN, World.cell?_drewN, World.frozen?_drewN] at hc1 hf1 hz1); (try have hl1 : w.heap.size < w1.heap.size := by (have hq := hb1.size; (try simp at hq); omega)); (try have hm1 : w.heap.size + 1 < w1.heap.size := by (have hq := hb1.size; (try simp at hq); omega)); (try have hn1 : w.heap.size + 1 + 1 < w1.heap.size := by (have hq := hb1.size; (try simp at hq); omega)); (try have hp1 : b < w1.heap.size := by (have hq := hb1.size; (try simp at hq); omega)); (try have ho1 : b' < w1.heap.size := by (have hq := hb1.size; (try simp at hq); omega))) | (go_at_call 130; refine (l28Place_c _ _).mono ?_; rintro e w' ⟨rfl, rfl⟩))
    go_ret2
    exact ⟨none, 0, rfl, Own.nil _ _ _, by repeat (with_reducible first | exact Below.refl _ _ | assumption | refine Bel.alloc ?_ _ | refine Bel.step (by assumption) ?_ | refine Below.drew ?_ | refine Bel.drewN ?_ _ | refine Below.setCell ?_ (by first | exact Nat.le_refl _ | omega | (simp; done) | (simp; omega)) _)⟩
  · have b1 : (codeT zs != 0) = true := by simpa using h2
    have b2 : (codeT zs == 0) = false := by simpa using h2
    clear h2
    rw [HV.out.1, HV.out.2]
    go_enter Try.func48, Try.ntmps48
    go_wp2_with fail
    go_at_call 123; refine (l28Code_c _ _ _ hn _ (Prs.alloc _ hA)).mono ?_; rintro e w' ⟨rfl, rfl⟩
    go_wp2_with (first | (go_at_call 129; refine (isModel_S _ _ _).mono ?_; rintro e w1 ⟨rfl, hb1⟩; obtain ⟨hc1, hf1, hz1⟩ := bel hb1; (try simp only [World.size_drew, World.cell?_drew, World.frozen?_drew] at hc1 hf1 hz1); (try simp only [World.heap_drewN, World.cell?_drewN, World.frozen?_drewN] at hc1 hf1 hz1); (try have hl1 : w.heap.size < w1.heap.size := by (have hq := hb1.size; (try simp at hq); omega)); (try have hm1 : w.heap.size + 1 < w1.heap.size := by (have hq := hb1.size; (try simp at hq); omega)); (try have hn1 : w.heap.size + 1 + 1 < w1.heap.size := by (have hq := hb1.size; (try simp at hq); omega)); (try have hp1 : b < w1.heap.size := by (have hq := hb1.size; (try simp at hq); omega)); (try have ho1 : b' < w1.heap.size := by (have hq := hb1.size; (try simp at hq); omega))))
    go_ret2
    exact ⟨none, 0, rfl, Own.nil _ _ _, by repeat (with_reducible first | exact Below.refl _ _ | assumption | refine Bel.alloc ?_ _ | refine Bel.step (by assumption) ?_ | refine Below.drew ?_ | refine Bel.drewN ?_ _ | refine Below.setCell ?_ (by first | exact Nat.le_refl _ | omega | (simp; done) | (simp; omega)) _)⟩
  · rw [HV.out.1, HV.out.2]
    go_enter Try.func48, Try.ntmps48
    go_wp2_with fail
    go_at_call 123; refine (l28Code_c _ _ _ hn _ (Prs.alloc _ hA)).mono ?_; rintro e w' ⟨rfl, rfl⟩
    go_wp2_with (first | (go_at_call 129; refine (isModel_S _ _ _).mono ?_; rintro e w1 ⟨rfl, hb1⟩; obtain ⟨hc1, hf1, hz1⟩ := bel hb1; (try simp only [World.size_drew, World.cell?_drew, World.frozen?_drew] at hc1 hf1 hz1); (try simp only [World.heap_drewN, World.cell?_drewN, World.frozen?_drewN] at hc1 hf1 hz1); (try have hl1 : w.heap.size < w1.heap.size := by (have hq := hb1.size; (try simp at hq); omega)); (try have hm1 : w.heap.size + 1 < w1.heap.size := by (have hq := hb1.size; (try simp at hq); omega)); (try have hn1 : w.heap.size + 1 + 1 < w1.heap.size := by (have hq := hb1.size; (try simp at hq); omega)); (try have hp1 : b < w1.heap.size := by (have hq := hb1.size; (try simp at hq); omega)); (try have ho1 : b' < w1.heap.size := by (have hq := hb1.size; (try simp at hq); omega))))
    go_ret2
    exact ⟨none, 0, rfl, Own.nil _ _ _, by repeat (with_reducible first | exact Below.refl _ _ | assumption | refine Bel.alloc ?_ _ | refine Bel.step (by assumption) ?_ | refine Below.drew ?_ | refine Bel.drewN ?_ _ | refine Below.setCell ?_ (by first | exact Nat.le_refl _ | omega | (simp; done) | (simp; omega)) _)⟩
set_option maxHeartbeats 1000000 in
theorem FarTests_I (s z lim : Int) (A : Option Addr) (c : Nat) (zs : List (Int × Int)) (hn : zs.length ≤ 1048576) (w : World) (hA : Prs w A zs) :
    Calls Try.prog 47 #[.agg #[.int .i64 s, .int .i64 z], .slice A zs.length c, .int .i64 lim] w fun e w' => ∃ A' c', e = .returned (.tuple #[.slice A' (farL s z lim zs).length c', .int .i64 (farC s z lim zs)]) ∧ Own w' w.heap.size 2 (.slice A' (farL s z lim zs).length c') (farL s z lim zs) ∧ Below w.heap.size w w' := by
  rcases far_cases s z lim zs with ⟨h1, h2, h3, HV⟩ | ⟨h1, h2, h3, HV⟩ | ⟨h1, h2, HV⟩ | ⟨h1, HV⟩
  · obtain ⟨c4, c5⟩ := codeT_0 h2
    obtain ⟨a1, a2, a3, a4⟩ := isModel_iff h1
    obtain ⟨l1, l2⟩ := inB_iff.1 h3
    have H0 := Lib.hid (show fitOfE s z zs = 0 by simp [fitOfE, h1, h2])
    have OK := Lib.hid c4
    clear h2 c4
    rw [HV.out.1, HV.out.2]
    go_enter Try.func47, Try.ntmps47
    go_wp2_with fail
    go_at_call 134; refine (checkModel_c _ _ _ _ _ hn _ (Prs.alloc _ hA)).mono ?_; rintro e w1 ⟨rfl, hb1⟩; obtain ⟨hc1, hf1, hz1⟩ := bel hb1; (try simp only [World.size_drew, World.cell?_drew, World.frozen?_drew] at hc1 hf1 hz1); (try simp only [World.heap_drewN, World.cell?_drewN, World.frozen?_drewN] at hc1 hf1 hz1); (try have hl1 : w.heap.size < w1.heap.size := by (have hq := hb1.size; (try simp at hq); omega)); (try have hm1 : w.heap.size + 1 < w1.heap.size := by (have hq := hb1.size; (try simp at hq); omega)); (try have hn1 : w.heap.size + 1 + 1 < w1.heap.size := by (have hq := hb1.size; (try simp at hq); omega)); (try have hp1 : b < w1.heap.size := by (have hq := hb1.size; (try simp at hq); omega)); (try have ho1 : b' < w1.heap.size := by (have hq := hb1.size; (try simp at hq); omega))
    rw [H0.out]
    go_wp2_with (first | (go_at_call 127; refine (isOnRule_c _ _).mono ?_; rintro e w' ⟨rfl, rfl⟩))
    go_loopw [9, 10, 11, 24] (fun v _ _ i wr => ∃ k : Nat, k ≤ zs.length ∧ i = .int .i64 k ∧ Own wr (w.heap.size + 1) 2 v (faN s z lim zs k) ∧ Blk wr w.heap.size 73 #[.int .i64 s, .int .i64 z] ∧ Below w.heap.size w wr) (fun _ _ _ i _ => zs.length - (intOf i).toNat)
    case atStart => exact ⟨0, Nat.zero_le _, rfl, Own.new _ _ _ (by have := hb1.size; simp at this; omega), Blk.alloc _ (Blk.step hb1 (Blk.new _ _ _)), by repeat (with_reducible first | exact Below.refl _ _ | assumption | refine Bel.alloc ?_ _ | refine Bel.step (by assumption) ?_ | refine Below.drew ?_ | refine Bel.drewN ?_ _ | refine Below.setCell ?_ (by first | exact Nat.le_refl _ | omega | (simp; done) | (simp; omega)) _)⟩
    case round =>
      obtain ⟨k, hk, rfl, hO, hB, hbel⟩ := hrel
      have k0 : wr.cell? ⟨w.heap.size, 0, none⟩ = some (.int .i64 s) := by rw [hB.cell]; rfl
      have k1 : wr.cell? ⟨w.heap.size, 1, none⟩ = some (.int .i64 z) := by rw [hB.cell]; rfl
      have klt := hB.lt
      have HB := Lib.hid hB
      clear hB hb1 hc1 hf1 hz1 h1 h3
      have hL := fa_len s z lim zs k
      by_cases hlt : k < zs.length
      · obtain ⟨b, o, rfl, hbb, hc1, hc2⟩ := (Prs.step hbel hA).at_ k hlt
        obtain ⟨t1, t2, t3, t4⟩ := okP_iff (okT_at OK.out k hlt)
        have HY := Lib.hid (fa_yes s z lim zs k)
        have HN := Lib.hid (fa_no s z lim zs k)
        rw [getD_at _ _ _ hlt] at HY HN
        obtain ⟨x, hx⟩ : ∃ x, x = zs[k].1 := ⟨_, rfl⟩
        obtain ⟨y, hy⟩ : ∃ y, y = zs[k].2 := ⟨_, rfl⟩
        rw [← hx] at hc1 t1 t2 HY HN
        rw [← hy] at hc2 t3 t4 HY HN
        clear hx hy
        by_cases he : lim < Er s z x y
        · have HE := Lib.hid (HY.out he)
          go_wp2_with fail
          go_at_call 128; refine (errorOf_c _ _ _ _ (by omega) (by omega) (by omega) (by omega) (by omega) (by omega) (by omega) (by omega) _).mono ?_; rintro e w7 ⟨rfl, hb7⟩; obtain ⟨hc7, hf7, hz7⟩ := bel hb7; (try simp only [World.size_drew, World.cell?_drew, World.frozen?_drew] at hc7 hf7 hz7); (try simp only [World.heap_drewN, World.cell?_drewN, World.frozen?_drewN] at hc7 hf7 hz7); (try have hl7 : w.heap.size < w7.heap.size := by (have hq := hb7.size; (try simp at hq); omega)); (try have hm7 : w.heap.size + 1 < w7.heap.size := by (have hq := hb7.size; (try simp at hq); omega)); (try have hn7 : w.heap.size + 1 + 1 < w7.heap.size := by (have hq := hb7.size; (try simp at hq); omega)); (try have hp7 : b < w7.heap.size := by (have hq := hb7.size; (try simp at hq); omega)); (try have ho7 : b' < w7.heap.size := by (have hq := hb7.size; (try simp at hq); omega))
          have hbx2 : Below wr.heap.size wr w7 := by repeat (with_reducible first | exact Below.refl _ _ | assumption | refine Bel.alloc ?_ _ | refine Bel.step (by assumption) ?_ | refine Below.drew ?_ | refine Bel.drewN ?_ _ | refine Below.setCell ?_ (by first | exact Nat.le_refl _ | omega | (simp; done) | (simp; omega)) _)
          have hbelx := Bel.step hbx2 hbel
          go_wp2_with (at_builtin; refine wpList_app1 rfl _ _ 26 rfl (w.heap.size + 1) 2 Try.underlying26 info64 _ _ (k : Int) rfl (Own.alloc _ (Own.step hbx2 hO)) w7.heap.size rfl (by simp) (by omega) (by have := hbx2.size; simp; omega) ?_; intro v1 w1 hO1 hb1)
          go_roundw
          case rel =>
            have hRR : ∃ l' : Nat, l' ≤ zs.length ∧ Value.int .i64 (k + 1) = .int .i64 l' ∧ Own w1 (w.heap.size + 1) 2 v1 (faN s z lim zs l') ∧ Blk w1 w.heap.size 73 #[.int .i64 s, .int .i64 z] ∧ Below w.heap.size w w1 := ⟨k + 1, by omega, by go_num, by rw [HE.out]; exact hO1, Blk.under hb1 (by omega) (Blk.alloc _ (Blk.step hbx2 HB.out)), hbelx.trans ((Below.alloc (Below.refl _ _) hbelx.size _).trans (hb1.mono (by omega)))⟩
            first | exact hRR | ((repeat apply Exists.intro); exact ⟨hRR, rfl⟩)
          case measure => simp [intOf]; omega
        · have HE := Lib.hid (HN.out he)
          go_wp2_with fail
          go_at_call 128; refine (errorOf_c _ _ _ _ (by omega) (by omega) (by omega) (by omega) (by omega) (by omega) (by omega) (by omega) _).mono ?_; rintro e w7 ⟨rfl, hb7⟩; obtain ⟨hc7, hf7, hz7⟩ := bel hb7; (try simp only [World.size_drew, World.cell?_drew, World.frozen?_drew] at hc7 hf7 hz7); (try simp only [World.heap_drewN, World.cell?_drewN, World.frozen?_drewN] at hc7 hf7 hz7); (try have hl7 : w.heap.size < w7.heap.size := by (have hq := hb7.size; (try simp at hq); omega)); (try have hm7 : w.heap.size + 1 < w7.heap.size := by (have hq := hb7.size; (try simp at hq); omega)); (try have hn7 : w.heap.size + 1 + 1 < w7.heap.size := by (have hq := hb7.size; (try simp at hq); omega)); (try have hp7 : b < w7.heap.size := by (have hq := hb7.size; (try simp at hq); omega)); (try have ho7 : b' < w7.heap.size := by (have hq := hb7.size; (try simp at hq); omega))
          have hbx2 : Below wr.heap.size wr w7 := by repeat (with_reducible first | exact Below.refl _ _ | assumption | refine Bel.alloc ?_ _ | refine Bel.step (by assumption) ?_ | refine Below.drew ?_ | refine Bel.drewN ?_ _ | refine Below.setCell ?_ (by first | exact Nat.le_refl _ | omega | (simp; done) | (simp; omega)) _)
          go_wp2
          go_roundw
          case rel => exact ⟨k + 1, by omega, by go_num, by rw [HE.out]; exact Own.step hbx2 hO, Blk.step hbx2 HB.out, Bel.step hbx2 hbel⟩
          case measure => simp [intOf]; omega
      · obtain rfl : k = zs.length := by omega
        obtain ⟨A', c', rfl, _, _, _, _⟩ := hO.form
        go_wp2
        go_ret2
        exact ⟨A', c', rfl, Own.ge_mono hO (by omega), hbel⟩
  · have H0 := Lib.hid (show fitOfE s z zs = 0 by simp [fitOfE, h1, h2])
    clear h2 h1
    rw [HV.out.1, HV.out.2]
    go_enter Try.func47, Try.ntmps47
    go_wp2_with fail
    go_at_call 134; refine (checkModel_c _ _ _ _ _ hn _ (Prs.alloc _ hA)).mono ?_; rintro e w1 ⟨rfl, hb1⟩; obtain ⟨hc1, hf1, hz1⟩ := bel hb1; (try simp only [World.size_drew, World.cell?_drew, World.frozen?_drew] at hc1 hf1 hz1); (try simp only [World.heap_drewN, World.cell?_drewN, World.frozen?_drewN] at hc1 hf1 hz1); (try have hl1 : w.heap.size < w1.heap.size := by (have hq := hb1.size; (try simp at hq); omega)); (try have hm1 : w.heap.size + 1 < w1.heap.size := by (have hq := hb1.size; (try simp at hq); omega)); (try have hn1 : w.heap.size + 1 + 1 < w1.heap.size := by (have hq := hb1.size; (try simp at hq); omega)); (try have hp1 : b < w1.heap.size := by (have hq := hb1.size; (try simp at hq); omega)); (try have ho1 : b' < w1.heap.size := by (have hq := hb1.size; (try simp at hq); omega))
    rw [H0.out]
    go_wp2_with (first | (go_at_call 127; refine (isOnRule_c _ _).mono ?_; rintro e w' ⟨rfl, rfl⟩))
    go_ret2
    exact ⟨none, 0, rfl, Own.nil _ _ _, by repeat (with_reducible first | exact Below.refl _ _ | assumption | refine Bel.alloc ?_ _ | refine Bel.step (by assumption) ?_ | refine Below.drew ?_ | refine Bel.drewN ?_ _ | refine Below.setCell ?_ (by first | exact Nat.le_refl _ | omega | (simp; done) | (simp; omega)) _)⟩
  · have H0 := Lib.hid (show fitOfE s z zs = codeT zs by simp [fitOfE, h1])
    have b1 : (codeT zs != 0) = true := by simpa using h2
    clear h2 h1
    rw [HV.out.1, HV.out.2]
    go_enter Try.func47, Try.ntmps47
    go_wp2_with fail
    go_at_call 134; refine (checkModel_c _ _ _ _ _ hn _ (Prs.alloc _ hA)).mono ?_; rintro e w1 ⟨rfl, hb1⟩; obtain ⟨hc1, hf1, hz1⟩ := bel hb1; (try simp only [World.size_drew, World.cell?_drew, World.frozen?_drew] at hc1 hf1 hz1); (try simp only [World.heap_drewN, World.cell?_drewN, World.frozen?_drewN] at hc1 hf1 hz1); (try have hl1 : w.heap.size < w1.heap.size := by (have hq := hb1.size; (try simp at hq); omega)); (try have hm1 : w.heap.size + 1 < w1.heap.size := by (have hq := hb1.size; (try simp at hq); omega)); (try have hn1 : w.heap.size + 1 + 1 < w1.heap.size := by (have hq := hb1.size; (try simp at hq); omega)); (try have hp1 : b < w1.heap.size := by (have hq := hb1.size; (try simp at hq); omega)); (try have ho1 : b' < w1.heap.size := by (have hq := hb1.size; (try simp at hq); omega))
    rw [H0.out]
    go_wp2
    go_ret2
    exact ⟨none, 0, rfl, Own.nil _ _ _, by repeat (with_reducible first | exact Below.refl _ _ | assumption | refine Bel.alloc ?_ _ | refine Bel.step (by assumption) ?_ | refine Below.drew ?_ | refine Bel.drewN ?_ _ | refine Below.setCell ?_ (by first | exact Nat.le_refl _ | omega | (simp; done) | (simp; omega)) _)⟩
  · have H0 := Lib.hid (show fitOfE s z zs = 1 by simp [fitOfE, h1])
    clear h1
    rw [HV.out.1, HV.out.2]
    go_enter Try.func47, Try.ntmps47
    go_wp2_with fail
    go_at_call 134; refine (checkModel_c _ _ _ _ _ hn _ (Prs.alloc _ hA)).mono ?_; rintro e w1 ⟨rfl, hb1⟩; obtain ⟨hc1, hf1, hz1⟩ := bel hb1; (try simp only [World.size_drew, World.cell?_drew, World.frozen?_drew] at hc1 hf1 hz1); (try simp only [World.heap_drewN, World.cell?_drewN, World.frozen?_drewN] at hc1 hf1 hz1); (try have hl1 : w.heap.size < w1.heap.size := by (have hq := hb1.size; (try simp at hq); omega)); (try have hm1 : w.heap.size + 1 < w1.heap.size := by (have hq := hb1.size; (try simp at hq); omega)); (try have hn1 : w.heap.size + 1 + 1 < w1.heap.size := by (have hq := hb1.size; (try simp at hq); omega)); (try have hp1 : b < w1.heap.size := by (have hq := hb1.size; (try simp at hq); omega)); (try have ho1 : b' < w1.heap.size := by (have hq := hb1.size; (try simp at hq); omega))
    rw [H0.out]
    go_wp2
    go_ret2
    exact ⟨none, 0, rfl, Own.nil _ _ _, by repeat (with_reducible first | exact Below.refl _ _ | assumption | refine Bel.alloc ?_ _ | refine Bel.step (by assumption) ?_ | refine Below.drew ?_ | refine Bel.drewN ?_ _ | refine Below.setCell ?_ (by first | exact Nat.le_refl _ | omega | (simp; done) | (simp; omega)) _)⟩
end Go.Proofs.Ytpmcgicopogbhaa
