/- Chapter 28: tests that are far off. Conditions: as stated at each contract. -/
import Derived.Test.YtjhkpejejkkjlaaProg
import Derived.Test.YtjhkpejejkkjlaaBase
import Derived.Test.YtjhkpejejkkjlaaL01
import Derived.Test.YtjhkpejejkkjlaaCp
import Derived.Test.YtjhkpejejkkjlaaL28
import Derived.Test.YtjhkpejejkkjlaaL28b
import Derived.WalkKit
import Derived.WalkSpells
import Derived.WalkLawsBesides
import Derived.Lib.Hide
import Derived.Deep.QuietTactic
import Derived.BigQuiet
import Derived.Deep.Draws
import Derived.Deep.RegionHeld3
namespace Go.Proofs.Ytjhkpejejkkjlaa
open Go.RowKit
set_option linter.unusedVariables false
/-- The numbers of the tests below k whose error is greater. -/
def faN (s z lim : Int) (zs : List (Int × Int)) : Nat → List Int
  | 0 => []
  | k + 1 => faN s z lim zs k ++ (if lim < Er s z (zs.getD k (0, 0)).1 (zs.getD k (0, 0)).2 then [(k : Int)] else [])
theorem fa_yes (s z lim : Int) (zs : List (Int × Int)) (k : Nat) (h : lim < Er s z (zs.getD k (0, 0)).1 (zs.getD k (0, 0)).2) : faN s z lim zs (k + 1) = faN s z lim zs k ++ [(k : Int)] := by rw [faN, if_pos h]
theorem fa_no (s z lim : Int) (zs : List (Int × Int)) (k : Nat) (h : ¬ lim < Er s z (zs.getD k (0, 0)).1 (zs.getD k (0, 0)).2) : faN s z lim zs (k + 1) = faN s z lim zs k := by rw [faN, if_neg h, List.append_nil]
theorem fa_len (s z lim : Int) (zs : List (Int × Int)) (k : Nat) : (faN s z lim zs k).length ≤ k := by
  induction k with
  | zero => simp [faN]
  | succ k ih => rw [faN, List.length_append]; split <;> simp <;> omega
def farC (s z lim : Int) (zs : List (Int × Int)) : Int := if isModel s z then (if codeT zs = 0 then (if inB lim 0 100000 then 0 else 2) else codeT zs) else 1
def farL (s z lim : Int) (zs : List (Int × Int)) : List Int := if farC s z lim zs = 0 then faN s z lim zs zs.length else []
theorem far_len (s z lim : Int) (zs : List (Int × Int)) : (farL s z lim zs).length ≤ zs.length := by
  unfold farL
  split
  · exact fa_len s z lim zs zs.length
  · simp
theorem far_cases (s z lim : Int) (zs : List (Int × Int)) :
    (isModel s z = true ∧ codeT zs = 0 ∧ inB lim 0 100000 = true ∧ Hid (farC s z lim zs = 0 ∧ farL s z lim zs = faN s z lim zs zs.length)) ∨
    (isModel s z = true ∧ codeT zs = 0 ∧ inB lim 0 100000 = false ∧ Hid (farC s z lim zs = 2 ∧ farL s z lim zs = [])) ∨
    (isModel s z = true ∧ codeT zs ≠ 0 ∧ Hid (farC s z lim zs = codeT zs ∧ farL s z lim zs = [])) ∨
    (isModel s z = false ∧ Hid (farC s z lim zs = 1 ∧ farL s z lim zs = [])) := by
  unfold Hid
  cases h1 : isModel s z with
  | false => exact .inr (.inr (.inr ⟨rfl, by simp [farL, farC, h1]⟩))
  | true =>
    by_cases h2 : codeT zs = 0
    · cases h3 : inB lim 0 100000 with
      | true => exact .inl ⟨rfl, h2, rfl, by simp [farL, farC, h1, h2, h3]⟩
      | false => exact .inr (.inl ⟨rfl, h2, rfl, by simp [farL, farC, h1, h2, h3]⟩)
    · exact .inr (.inr (.inl ⟨rfl, h2, by simp [farL, farC, h1, h2]⟩))
theorem Blk.under {W W' : World} {g B : Nat} {t : TypeId} {cs : Array Value} (hb : Below B W W') (hg : g < B) (h : Blk W g t cs) : Blk W' g t cs := (hb.block g hg).trans h
set_option maxHeartbeats 1000000 in
theorem FarTests_S (s z lim : Int) (A : Option Addr) (c : Nat) (zs : List (Int × Int)) (hn : zs.length ≤ 1048576) (w : World) (hA : Prs w A zs) :
    Calls Try.prog 36 #[.agg #[.int .i64 s, .int .i64 z], .slice A zs.length c, .int .i64 lim] w fun e w' => ∃ A' c', e = .returned (.tuple #[.slice A' (farL s z lim zs).length c', .int .i64 (farC s z lim zs)]) ∧ Own w' w.heap.size 2 (.slice A' (farL s z lim zs).length c') (farL s z lim zs) ∧ Below w.heap.size w w' := by
  rcases far_cases s z lim zs with ⟨h1, h2, h3, HV⟩ | ⟨h1, h2, h3, HV⟩ | ⟨h1, h2, HV⟩ | ⟨h1, HV⟩
  · obtain ⟨c4, c5⟩ := codeT_0 h2
    obtain ⟨a1, a2, a3, a4⟩ := isModel_iff h1
    obtain ⟨l1, l2⟩ := inB_iff.1 h3
    have H0 := Lib.hid h2
    have OK := Lib.hid c4
    clear h2 c4
    rw [HV.out.1, HV.out.2]
    go_enter Try.func36, Try.ntmps36
    go_wp2_with fail
    go_at_call 79; refine (l28Code_c _ _ _ hn _ (Prs.alloc _ hA)).mono ?_; rintro e w' ⟨rfl, rfl⟩
    rw [H0.out]
    go_wp2_with (first | (go_at_call 85; refine (isModel_S _ _ _).mono ?_; rintro e w1 ⟨rfl, hb1⟩; obtain ⟨hc1, hf1, hz1⟩ := bel hb1; (try simp only [World.size_drew, World.cell?_drew, World.frozen?_drew] at hc1 hf1 hz1); (try simp only [World.heap_drewN, World.cell?_drewN, World.frozen?_drewN] at hc1 hf1 hz1); (try have hl1 : w.heap.size < w1.heap.size := by (have hq := hb1.size; (try simp at hq); omega)); (try have hm1 : w.heap.size + 1 < w1.heap.size := by (have hq := hb1.size; (try simp at hq); omega)); (try have hn1 : w.heap.size + 1 + 1 < w1.heap.size := by (have hq := hb1.size; (try simp at hq); omega)); (try have hp1 : b < w1.heap.size := by (have hq := hb1.size; (try simp at hq); omega)); (try have ho1 : b' < w1.heap.size := by (have hq := hb1.size; (try simp at hq); omega))) | (go_at_call 86; refine (l28Place_c _ _).mono ?_; rintro e w' ⟨rfl, rfl⟩))
    go_loopw [9, 10] (fun v i wr => ∃ k : Nat, k ≤ zs.length ∧ i = .int .i64 k ∧ Own wr (w.heap.size + 1) 2 v (faN s z lim zs k) ∧ Blk wr w.heap.size 54 #[.int .i64 s, .int .i64 z] ∧ Below w.heap.size w wr) (fun _ i _ => zs.length - (intOf i).toNat)
    case atStart => exact ⟨0, Nat.zero_le _, rfl, Own.new _ _ _ (by have := hb1.size; simp at this; omega), Blk.alloc _ (Blk.step hb1 (Blk.new _ _ _)), by repeat (with_reducible first | exact Below.refl _ _ | assumption | refine Bel.alloc ?_ _ | refine Bel.step (by assumption) ?_ | refine Below.drew ?_ | refine Bel.drewN ?_ _ | refine Below.setCell ?_ (by first | exact Nat.le_refl _ | omega | (simp; done) | (simp; omega)) _)⟩
    case round =>
      obtain ⟨k, hk, rfl, hO, hB, hbel⟩ := hrel
      have k0 : wr.cell? ⟨w.heap.size, 0, none⟩ = some (.int .i64 s) := by rw [hB.cell]; rfl
      have k1 : wr.cell? ⟨w.heap.size, 1, none⟩ = some (.int .i64 z) := by rw [hB.cell]; rfl
      have klt := hB.lt
      have HB := Lib.hid hB
      clear hB hb1 hc1 hf1 hz1 h1 h3
      have hL := fa_len s z lim zs k
      by_cases hlt : k < zs.length
      · obtain ⟨b, o, rfl, hbb, hc1, hc2⟩ := (Prs.step hbel hA).at_ k hlt
        obtain ⟨t1, t2, t3, t4⟩ := okP_iff (okT_at OK.out k hlt)
        have HY := Lib.hid (fa_yes s z lim zs k)
        have HN := Lib.hid (fa_no s z lim zs k)
        rw [getD_at _ _ _ hlt] at HY HN
        obtain ⟨x, hx⟩ : ∃ x, x = zs[k].1 := ⟨_, rfl⟩
        obtain ⟨y, hy⟩ : ∃ y, y = zs[k].2 := ⟨_, rfl⟩
        rw [← hx] at hc1 t1 t2 HY HN
        rw [← hy] at hc2 t3 t4 HY HN
        clear hx hy
        by_cases he : lim < Er s z x y
        · have HE := Lib.hid (HY.out he)
          go_wp2
          go_region_held3 (fun w' => w'.cell? ⟨w.heap.size, 0, none⟩ = some (.int .i64 s) ∧ w'.cell? ⟨w.heap.size, 1, none⟩ = some (.int .i64 z) ∧ w'.cell? ⟨b, o + k * 2, none⟩ = some (.int .i64 x) ∧ w'.cell? ⟨b, o + k * 2 + 1, none⟩ = some (.int .i64 y)) (simp [go_sem, *])
              (first | (go_at_call 87; refine (l28Error_c _ _ _ _ (by omega) (by omega) (by omega) (by omega) (by omega) (by omega) (by omega) (by omega) _).mono ?_; rintro e wx ⟨rfl, hbx⟩; obtain ⟨hcx, hfx, hzx⟩ := bel hbx; (try simp only [World.size_drew, World.cell?_drew, World.frozen?_drew] at hcx hfx hzx); (try simp only [World.heap_drewN, World.cell?_drewN, World.frozen?_drewN] at hcx hfx hzx); (try have hlx : w.heap.size < wx.heap.size := by (have hq := hbx.size; (try simp at hq); omega)); (try have hmx : w.heap.size + 1 < wx.heap.size := by (have hq := hbx.size; (try simp at hq); omega)); (try have hnx : w.heap.size + 1 + 1 < wx.heap.size := by (have hq := hbx.size; (try simp at hq); omega)); (try have hpx : b < wx.heap.size := by (have hq := hbx.size; (try simp at hq); omega)); (try have hox : b' < wx.heap.size := by (have hq := hbx.size; (try simp at hq); omega))))
          have hbx2 : Below wr.heap.size wr wx := by repeat (with_reducible first | exact Below.refl _ _ | assumption | refine Bel.alloc ?_ _ | refine Bel.step (by assumption) ?_ | refine Below.drew ?_ | refine Bel.drewN ?_ _ | refine Below.setCell ?_ (by first | exact Nat.le_refl _ | omega | (simp; done) | (simp; omega)) _)
          have hbelx := Bel.step hbx2 hbel
          go_wp2_with (at_builtin; refine wpList_app1 rfl _ _ 24 rfl (w.heap.size + 1) 2 Try.underlying24 info64 _ _ (k : Int) rfl (Own.alloc _ (Own.step hbx2 hO)) wx.heap.size rfl (by simp) (by omega) (by have := hbx2.size; simp; omega) ?_; intro v1 w1 hO1 hb1)
          go_roundw
          case rel => exact ⟨k + 1, by omega, by go_num, by rw [HE.out]; exact hO1, Blk.under hb1 (by omega) (Blk.alloc _ (Blk.step hbx2 HB.out)), hbelx.trans ((Below.alloc (Below.refl _ _) hbelx.size _).trans (hb1.mono (by omega)))⟩
          case measure => simp [intOf]; omega
        · have HE := Lib.hid (HN.out he)
          go_wp2
          go_region_held3 (fun w' => w'.cell? ⟨w.heap.size, 0, none⟩ = some (.int .i64 s) ∧ w'.cell? ⟨w.heap.size, 1, none⟩ = some (.int .i64 z) ∧ w'.cell? ⟨b, o + k * 2, none⟩ = some (.int .i64 x) ∧ w'.cell? ⟨b, o + k * 2 + 1, none⟩ = some (.int .i64 y)) (simp [go_sem, *])
              (first | (go_at_call 87; refine (l28Error_c _ _ _ _ (by omega) (by omega) (by omega) (by omega) (by omega) (by omega) (by omega) (by omega) _).mono ?_; rintro e wx ⟨rfl, hbx⟩; obtain ⟨hcx, hfx, hzx⟩ := bel hbx; (try simp only [World.size_drew, World.cell?_drew, World.frozen?_drew] at hcx hfx hzx); (try simp only [World.heap_drewN, World.cell?_drewN, World.frozen?_drewN] at hcx hfx hzx); (try have hlx : w.heap.size < wx.heap.size := by (have hq := hbx.size; (try simp at hq); omega)); (try have hmx : w.heap.size + 1 < wx.heap.size := by (have hq := hbx.size; (try simp at hq); omega)); (try have hnx : w.heap.size + 1 + 1 < wx.heap.size := by (have hq := hbx.size; (try simp at hq); omega)); (try have hpx : b < wx.heap.size := by (have hq := hbx.size; (try simp at hq); omega)); (try have hox : b' < wx.heap.size := by (have hq := hbx.size; (try simp at hq); omega))))
          have hbx2 : Below wr.heap.size wr wx := by repeat (with_reducible first | exact Below.refl _ _ | assumption | refine Bel.alloc ?_ _ | refine Bel.step (by assumption) ?_ | refine Below.drew ?_ | refine Bel.drewN ?_ _ | refine Below.setCell ?_ (by first | exact Nat.le_refl _ | omega | (simp; done) | (simp; omega)) _)
          go_wp2
          go_roundw
          case rel => exact ⟨k + 1, by omega, by go_num, by rw [HE.out]; exact Own.step hbx2 hO, Blk.step hbx2 HB.out, Bel.step hbx2 hbel⟩
          case measure => simp [intOf]; omega
      · obtain rfl : k = zs.length := by omega
        obtain ⟨A', c', rfl, _, _, _, _⟩ := hO.form
        go_wp2
        go_ret2
        exact ⟨A', c', rfl, Own.ge_mono hO (by omega), hbel⟩
  · have H0 := Lib.hid h2
    clear h2
    rw [HV.out.1, HV.out.2]
    go_enter Try.func36, Try.ntmps36
    go_wp2_with fail
    go_at_call 79; refine (l28Code_c _ _ _ hn _ (Prs.alloc _ hA)).mono ?_; rintro e w' ⟨rfl, rfl⟩
    rw [H0.out]
    go_wp2_with (first | (go_at_call 85; refine (isModel_S _ _ _).mono ?_; rintro e w1 ⟨rfl, hb1⟩; obtain ⟨hc1, hf1, hz1⟩ := bel hb1; (try simp only [World.size_drew, World.cell?_drew, World.frozen?_drew] at hc1 hf1 hz1); (try simp only [World.heap_drewN, World.cell?_drewN, World.frozen?_drewN] at hc1 hf1 hz1); (try have hl1 : w.heap.size < w1.heap.size := by (have hq := hb1.size; (try simp at hq); omega)); (try have hm1 : w.heap.size + 1 < w1.heap.size := by (have hq := hb1.size; (try simp at hq); omega)); (try have hn1 : w.heap.size + 1 + 1 < w1.heap.size := by (have hq := hb1.size; (try simp at hq); omega)); (try have hp1 : b < w1.heap.size := by (have hq := hb1.size; (try simp at hq); omega)); (try have ho1 : b' < w1.heap.size := by (have hq := hb1.size; (try simp at hq); omega))) | (go_at_call 86; refine (l28Place_c _ _).mono ?_; rintro e w' ⟨rfl, rfl⟩))
    go_ret2
    exact ⟨none, 0, rfl, Own.nil _ _ _, by repeat (with_reducible first | exact Below.refl _ _ | assumption | refine Bel.alloc ?_ _ | refine Bel.step (by assumption) ?_ | refine Below.drew ?_ | refine Bel.drewN ?_ _ | refine Below.setCell ?_ (by first | exact Nat.le_refl _ | omega | (simp; done) | (simp; omega)) _)⟩
  · have b1 : (codeT zs != 0) = true := by simpa using h2
    have b2 : (codeT zs == 0) = false := by simpa using h2
    clear h2
    rw [HV.out.1, HV.out.2]
    go_enter Try.func36, Try.ntmps36
    go_wp2_with fail
    go_at_call 79; refine (l28Code_c _ _ _ hn _ (Prs.alloc _ hA)).mono ?_; rintro e w' ⟨rfl, rfl⟩
    go_wp2_with (first | (go_at_call 85; refine (isModel_S _ _ _).mono ?_; rintro e w1 ⟨rfl, hb1⟩; obtain ⟨hc1, hf1, hz1⟩ := bel hb1; (try simp only [World.size_drew, World.cell?_drew, World.frozen?_drew] at hc1 hf1 hz1); (try simp only [World.heap_drewN, World.cell?_drewN, World.frozen?_drewN] at hc1 hf1 hz1); (try have hl1 : w.heap.size < w1.heap.size := by (have hq := hb1.size; (try simp at hq); omega)); (try have hm1 : w.heap.size + 1 < w1.heap.size := by (have hq := hb1.size; (try simp at hq); omega)); (try have hn1 : w.heap.size + 1 + 1 < w1.heap.size := by (have hq := hb1.size; (try simp at hq); omega)); (try have hp1 : b < w1.heap.size := by (have hq := hb1.size; (try simp at hq); omega)); (try have ho1 : b' < w1.heap.size := by (have hq := hb1.size; (try simp at hq); omega))))
    go_ret2
    exact ⟨none, 0, rfl, Own.nil _ _ _, by repeat (with_reducible first | exact Below.refl _ _ | assumption | refine Bel.alloc ?_ _ | refine Bel.step (by assumption) ?_ | refine Below.drew ?_ | refine Bel.drewN ?_ _ | refine Below.setCell ?_ (by first | exact Nat.le_refl _ | omega | (simp; done) | (simp; omega)) _)⟩
  · rw [HV.out.1, HV.out.2]
    go_enter Try.func36, Try.ntmps36
    go_wp2_with fail
    go_at_call 79; refine (l28Code_c _ _ _ hn _ (Prs.alloc _ hA)).mono ?_; rintro e w' ⟨rfl, rfl⟩
    go_wp2_with (first | (go_at_call 85; refine (isModel_S _ _ _).mono ?_; rintro e w1 ⟨rfl, hb1⟩; obtain ⟨hc1, hf1, hz1⟩ := bel hb1; (try simp only [World.size_drew, World.cell?_drew, World.frozen?_drew] at hc1 hf1 hz1); (try simp only [World.heap_drewN, World.cell?_drewN, World.frozen?_drewN] at hc1 hf1 hz1); (try have hl1 : w.heap.size < w1.heap.size := by (have hq := hb1.size; (try simp at hq); omega)); (try have hm1 : w.heap.size + 1 < w1.heap.size := by (have hq := hb1.size; (try simp at hq); omega)); (try have hn1 : w.heap.size + 1 + 1 < w1.heap.size := by (have hq := hb1.size; (try simp at hq); omega)); (try have hp1 : b < w1.heap.size := by (have hq := hb1.size; (try simp at hq); omega)); (try have ho1 : b' < w1.heap.size := by (have hq := hb1.size; (try simp at hq); omega))))
    go_ret2
    exact ⟨none, 0, rfl, Own.nil _ _ _, by repeat (with_reducible first | exact Below.refl _ _ | assumption | refine Bel.alloc ?_ _ | refine Bel.step (by assumption) ?_ | refine Below.drew ?_ | refine Bel.drewN ?_ _ | refine Below.setCell ?_ (by first | exact Nat.le_refl _ | omega | (simp; done) | (simp; omega)) _)⟩
set_option maxHeartbeats 1000000 in
theorem FarTests_I (s z lim : Int) (A : Option Addr) (c : Nat) (zs : List (Int × Int)) (hn : zs.length ≤ 1048576) (w : World) (hA : Prs w A zs) :
    Calls Try.prog 38 #[.agg #[.int .i64 s, .int .i64 z], .slice A zs.length c, .int .i64 lim] w fun e w' => ∃ A' c', e = .returned (.tuple #[.slice A' (farL s z lim zs).length c', .int .i64 (farC s z lim zs)]) ∧ Own w' w.heap.size 2 (.slice A' (farL s z lim zs).length c') (farL s z lim zs) ∧ Below w.heap.size w w' := by
  rcases far_cases s z lim zs with ⟨h1, h2, h3, HV⟩ | ⟨h1, h2, h3, HV⟩ | ⟨h1, h2, HV⟩ | ⟨h1, HV⟩
  · obtain ⟨c4, c5⟩ := codeT_0 h2
    obtain ⟨a1, a2, a3, a4⟩ := isModel_iff h1
    obtain ⟨l1, l2⟩ := inB_iff.1 h3
    have H0 := Lib.hid (show fitOfE s z zs = 0 by simp [fitOfE, h1, h2])
    have OK := Lib.hid c4
    clear h2 c4
    rw [HV.out.1, HV.out.2]
    go_enter Try.func38, Try.ntmps38
    go_wp2_with fail
    go_at_call 88; refine (checkModel_c _ _ _ _ _ hn _ (Prs.alloc _ hA)).mono ?_; rintro e w1 ⟨rfl, hb1⟩; obtain ⟨hc1, hf1, hz1⟩ := bel hb1; (try simp only [World.size_drew, World.cell?_drew, World.frozen?_drew] at hc1 hf1 hz1); (try simp only [World.heap_drewN, World.cell?_drewN, World.frozen?_drewN] at hc1 hf1 hz1); (try have hl1 : w.heap.size < w1.heap.size := by (have hq := hb1.size; (try simp at hq); omega)); (try have hm1 : w.heap.size + 1 < w1.heap.size := by (have hq := hb1.size; (try simp at hq); omega)); (try have hn1 : w.heap.size + 1 + 1 < w1.heap.size := by (have hq := hb1.size; (try simp at hq); omega)); (try have hp1 : b < w1.heap.size := by (have hq := hb1.size; (try simp at hq); omega)); (try have ho1 : b' < w1.heap.size := by (have hq := hb1.size; (try simp at hq); omega))
    rw [H0.out]
    go_wp2_with (first | (go_at_call 89; refine (isOnRule_c _ _).mono ?_; rintro e w' ⟨rfl, rfl⟩))
    go_loopw [9, 10, 11, 24] (fun v _ _ i wr => ∃ k : Nat, k ≤ zs.length ∧ i = .int .i64 k ∧ Own wr (w.heap.size + 1) 2 v (faN s z lim zs k) ∧ Blk wr w.heap.size 54 #[.int .i64 s, .int .i64 z] ∧ Below w.heap.size w wr) (fun _ _ _ i _ => zs.length - (intOf i).toNat)
    case atStart => exact ⟨0, Nat.zero_le _, rfl, Own.new _ _ _ (by have := hb1.size; simp at this; omega), Blk.alloc _ (Blk.step hb1 (Blk.new _ _ _)), by repeat (with_reducible first | exact Below.refl _ _ | assumption | refine Bel.alloc ?_ _ | refine Bel.step (by assumption) ?_ | refine Below.drew ?_ | refine Bel.drewN ?_ _ | refine Below.setCell ?_ (by first | exact Nat.le_refl _ | omega | (simp; done) | (simp; omega)) _)⟩
    case round =>
      obtain ⟨k, hk, rfl, hO, hB, hbel⟩ := hrel
      have k0 : wr.cell? ⟨w.heap.size, 0, none⟩ = some (.int .i64 s) := by rw [hB.cell]; rfl
      have k1 : wr.cell? ⟨w.heap.size, 1, none⟩ = some (.int .i64 z) := by rw [hB.cell]; rfl
      have klt := hB.lt
      have HB := Lib.hid hB
      clear hB hb1 hc1 hf1 hz1 h1 h3
      have hL := fa_len s z lim zs k
      by_cases hlt : k < zs.length
      · obtain ⟨b, o, rfl, hbb, hc1, hc2⟩ := (Prs.step hbel hA).at_ k hlt
        obtain ⟨t1, t2, t3, t4⟩ := okP_iff (okT_at OK.out k hlt)
        have HY := Lib.hid (fa_yes s z lim zs k)
        have HN := Lib.hid (fa_no s z lim zs k)
        rw [getD_at _ _ _ hlt] at HY HN
        obtain ⟨x, hx⟩ : ∃ x, x = zs[k].1 := ⟨_, rfl⟩
        obtain ⟨y, hy⟩ : ∃ y, y = zs[k].2 := ⟨_, rfl⟩
        rw [← hx] at hc1 t1 t2 HY HN
        rw [← hy] at hc2 t3 t4 HY HN
        clear hx hy
        by_cases he : lim < Er s z x y
        · have HE := Lib.hid (HY.out he)
          go_wp2_with fail
          go_at_call 90; refine (errorOf_c _ _ _ _ (by omega) (by omega) (by omega) (by omega) (by omega) (by omega) (by omega) (by omega) _).mono ?_; rintro e w7 ⟨rfl, hb7⟩; obtain ⟨hc7, hf7, hz7⟩ := bel hb7; (try simp only [World.size_drew, World.cell?_drew, World.frozen?_drew] at hc7 hf7 hz7); (try simp only [World.heap_drewN, World.cell?_drewN, World.frozen?_drewN] at hc7 hf7 hz7); (try have hl7 : w.heap.size < w7.heap.size := by (have hq := hb7.size; (try simp at hq); omega)); (try have hm7 : w.heap.size + 1 < w7.heap.size := by (have hq := hb7.size; (try simp at hq); omega)); (try have hn7 : w.heap.size + 1 + 1 < w7.heap.size := by (have hq := hb7.size; (try simp at hq); omega)); (try have hp7 : b < w7.heap.size := by (have hq := hb7.size; (try simp at hq); omega)); (try have ho7 : b' < w7.heap.size := by (have hq := hb7.size; (try simp at hq); omega))
          have hbx2 : Below wr.heap.size wr w7 := by repeat (with_reducible first | exact Below.refl _ _ | assumption | refine Bel.alloc ?_ _ | refine Bel.step (by assumption) ?_ | refine Below.drew ?_ | refine Bel.drewN ?_ _ | refine Below.setCell ?_ (by first | exact Nat.le_refl _ | omega | (simp; done) | (simp; omega)) _)
          have hbelx := Bel.step hbx2 hbel
          go_wp2_with (at_builtin; refine wpList_app1 rfl _ _ 24 rfl (w.heap.size + 1) 2 Try.underlying24 info64 _ _ (k : Int) rfl (Own.alloc _ (Own.step hbx2 hO)) w7.heap.size rfl (by simp) (by omega) (by have := hbx2.size; simp; omega) ?_; intro v1 w1 hO1 hb1)
          go_roundw
          case rel =>
            have hRR : ∃ l' : Nat, l' ≤ zs.length ∧ Value.int .i64 (k + 1) = .int .i64 l' ∧ Own w1 (w.heap.size + 1) 2 v1 (faN s z lim zs l') ∧ Blk w1 w.heap.size 54 #[.int .i64 s, .int .i64 z] ∧ Below w.heap.size w w1 := ⟨k + 1, by omega, by go_num, by rw [HE.out]; exact hO1, Blk.under hb1 (by omega) (Blk.alloc _ (Blk.step hbx2 HB.out)), hbelx.trans ((Below.alloc (Below.refl _ _) hbelx.size _).trans (hb1.mono (by omega)))⟩
            first | exact hRR | ((repeat apply Exists.intro); exact ⟨hRR, rfl⟩)
          case measure => simp [intOf]; omega
        · have HE := Lib.hid (HN.out he)
          go_wp2_with fail
          go_at_call 90; refine (errorOf_c _ _ _ _ (by omega) (by omega) (by omega) (by omega) (by omega) (by omega) (by omega) (by omega) _).mono ?_; rintro e w7 ⟨rfl, hb7⟩; obtain ⟨hc7, hf7, hz7⟩ := bel hb7; (try simp only [World.size_drew, World.cell?_drew, World.frozen?_drew] at hc7 hf7 hz7); (try simp only [World.heap_drewN, World.cell?_drewN, World.frozen?_drewN] at hc7 hf7 hz7); (try have hl7 : w.heap.size < w7.heap.size := by (have hq := hb7.size; (try simp at hq); omega)); (try have hm7 : w.heap.size + 1 < w7.heap.size := by (have hq := hb7.size; (try simp at hq); omega)); (try have hn7 : w.heap.size + 1 + 1 < w7.heap.size := by (have hq := hb7.size; (try simp at hq); omega)); (try have hp7 : b < w7.heap.size := by (have hq := hb7.size; (try simp at hq); omega)); (try have ho7 : b' < w7.heap.size := by (have hq := hb7.size; (try simp at hq); omega))
          have hbx2 : Below wr.heap.size wr w7 := by repeat (with_reducible first | exact Below.refl _ _ | assumption | refine Bel.alloc ?_ _ | refine Bel.step (by assumption) ?_ | refine Below.drew ?_ | refine Bel.drewN ?_ _ | refine Below.setCell ?_ (by first | exact Nat.le_refl _ | omega | (simp; done) | (simp; omega)) _)
          go_wp2
          go_roundw
          case rel => exact ⟨k + 1, by omega, by go_num, by rw [HE.out]; exact Own.step hbx2 hO, Blk.step hbx2 HB.out, Bel.step hbx2 hbel⟩
          case measure => simp [intOf]; omega
      · obtain rfl : k = zs.length := by omega
        obtain ⟨A', c', rfl, _, _, _, _⟩ := hO.form
        go_wp2
        go_ret2
        exact ⟨A', c', rfl, Own.ge_mono hO (by omega), hbel⟩
  · have H0 := Lib.hid (show fitOfE s z zs = 0 by simp [fitOfE, h1, h2])
    clear h2 h1
    rw [HV.out.1, HV.out.2]
    go_enter Try.func38, Try.ntmps38
    go_wp2_with fail
    go_at_call 88; refine (checkModel_c _ _ _ _ _ hn _ (Prs.alloc _ hA)).mono ?_; rintro e w1 ⟨rfl, hb1⟩; obtain ⟨hc1, hf1, hz1⟩ := bel hb1; (try simp only [World.size_drew, World.cell?_drew, World.frozen?_drew] at hc1 hf1 hz1); (try simp only [World.heap_drewN, World.cell?_drewN, World.frozen?_drewN] at hc1 hf1 hz1); (try have hl1 : w.heap.size < w1.heap.size := by (have hq := hb1.size; (try simp at hq); omega)); (try have hm1 : w.heap.size + 1 < w1.heap.size := by (have hq := hb1.size; (try simp at hq); omega)); (try have hn1 : w.heap.size + 1 + 1 < w1.heap.size := by (have hq := hb1.size; (try simp at hq); omega)); (try have hp1 : b < w1.heap.size := by (have hq := hb1.size; (try simp at hq); omega)); (try have ho1 : b' < w1.heap.size := by (have hq := hb1.size; (try simp at hq); omega))
    rw [H0.out]
    go_wp2_with (first | (go_at_call 89; refine (isOnRule_c _ _).mono ?_; rintro e w' ⟨rfl, rfl⟩))
    go_ret2
    exact ⟨none, 0, rfl, Own.nil _ _ _, by repeat (with_reducible first | exact Below.refl _ _ | assumption | refine Bel.alloc ?_ _ | refine Bel.step (by assumption) ?_ | refine Below.drew ?_ | refine Bel.drewN ?_ _ | refine Below.setCell ?_ (by first | exact Nat.le_refl _ | omega | (simp; done) | (simp; omega)) _)⟩
  · have H0 := Lib.hid (show fitOfE s z zs = codeT zs by simp [fitOfE, h1])
    have b1 : (codeT zs != 0) = true := by simpa using h2
    clear h2 h1
    rw [HV.out.1, HV.out.2]
    go_enter Try.func38, Try.ntmps38
    go_wp2_with fail
    go_at_call 88; refine (checkModel_c _ _ _ _ _ hn _ (Prs.alloc _ hA)).mono ?_; rintro e w1 ⟨rfl, hb1⟩; obtain ⟨hc1, hf1, hz1⟩ := bel hb1; (try simp only [World.size_drew, World.cell?_drew, World.frozen?_drew] at hc1 hf1 hz1); (try simp only [World.heap_drewN, World.cell?_drewN, World.frozen?_drewN] at hc1 hf1 hz1); (try have hl1 : w.heap.size < w1.heap.size := by (have hq := hb1.size; (try simp at hq); omega)); (try have hm1 : w.heap.size + 1 < w1.heap.size := by (have hq := hb1.size; (try simp at hq); omega)); (try have hn1 : w.heap.size + 1 + 1 < w1.heap.size := by (have hq := hb1.size; (try simp at hq); omega)); (try have hp1 : b < w1.heap.size := by (have hq := hb1.size; (try simp at hq); omega)); (try have ho1 : b' < w1.heap.size := by (have hq := hb1.size; (try simp at hq); omega))
    rw [H0.out]
    go_wp2
    go_ret2
    exact ⟨none, 0, rfl, Own.nil _ _ _, by repeat (with_reducible first | exact Below.refl _ _ | assumption | refine Bel.alloc ?_ _ | refine Bel.step (by assumption) ?_ | refine Below.drew ?_ | refine Bel.drewN ?_ _ | refine Below.setCell ?_ (by first | exact Nat.le_refl _ | omega | (simp; done) | (simp; omega)) _)⟩
  · have H0 := Lib.hid (show fitOfE s z zs = 1 by simp [fitOfE, h1])
    clear h1
    rw [HV.out.1, HV.out.2]
    go_enter Try.func38, Try.ntmps38
    go_wp2_with fail
    go_at_call 88; refine (checkModel_c _ _ _ _ _ hn _ (Prs.alloc _ hA)).mono ?_; rintro e w1 ⟨rfl, hb1⟩; obtain ⟨hc1, hf1, hz1⟩ := bel hb1; (try simp only [World.size_drew, World.cell?_drew, World.frozen?_drew] at hc1 hf1 hz1); (try simp only [World.heap_drewN, World.cell?_drewN, World.frozen?_drewN] at hc1 hf1 hz1); (try have hl1 : w.heap.size < w1.heap.size := by (have hq := hb1.size; (try simp at hq); omega)); (try have hm1 : w.heap.size + 1 < w1.heap.size := by (have hq := hb1.size; (try simp at hq); omega)); (try have hn1 : w.heap.size + 1 + 1 < w1.heap.size := by (have hq := hb1.size; (try simp at hq); omega)); (try have hp1 : b < w1.heap.size := by (have hq := hb1.size; (try simp at hq); omega)); (try have ho1 : b' < w1.heap.size := by (have hq := hb1.size; (try simp at hq); omega))
    rw [H0.out]
    go_wp2
    go_ret2
    exact ⟨none, 0, rfl, Own.nil _ _ _, by repeat (with_reducible first | exact Below.refl _ _ | assumption | refine Bel.alloc ?_ _ | refine Bel.step (by assumption) ?_ | refine Below.drew ?_ | refine Bel.drewN ?_ _ | refine Below.setCell ?_ (by first | exact Nat.le_refl _ | omega | (simp; done) | (simp; omega)) _)⟩
theorem markTestS_c (g n c : Nat) (k0 : Int) (h0 : 0 ≤ k0) (h1 : k0 ≤ 100000000) (hn : n ≤ 1048576) (w : World) (cs : Array Value) (hcs : cs.size = 2 * n) (hB : Blk w g 104 cs) :
    Calls Try.prog 39 #[.slice (some ⟨g, 0, none⟩) n c, .int .i64 k0] w fun e w' => e = .returned (.int .i64 (k0 + 2 * n)) ∧ w.grownBy w' (some g) := by
  go_enter Try.func39, Try.ntmps39
  go_wp2
  go_loopw [1, 5] (fun kk i wr => ∃ (k : Nat) (cu : Array Value), k ≤ n ∧ i = .int .i64 k ∧ kk = .int .i64 (k0 + 2 * k) ∧ Blk wr g 104 cu ∧ cu.size = 2 * n ∧ w.grownBy wr (some g)) (fun _ i _ => n - (intOf i).toNat)
  case atStart => exact ⟨0, cs, Nat.zero_le _, rfl, by simp, hB, hcs, World.grownBy.refl w _⟩
  case round =>
    obtain ⟨k, cu, hk, rfl, rfl, hBk, hsz, hg⟩ := hrel
    by_cases hlt : k < n
    · obtain ⟨x0, hc0⟩ : ∃ v, wr.cell? ⟨g, k * 2, none⟩ = some v := ⟨_, by rw [hBk.cell, Array.getElem?_eq_getElem (by omega)]⟩
      obtain ⟨x1, hc1⟩ : ∃ v, wr.cell? ⟨g, k * 2 + 1, none⟩ = some v := ⟨_, by rw [hBk.cell, Array.getElem?_eq_getElem (by omega)]⟩
      have hf0 := hBk.frozen (k * 2)
      have hf1 := hBk.frozen (k * 2 + 1)
      have HS := Lib.hid ((hBk.set_ (k * 2) (.int .i64 (k0 + 2 * k))).set_ (k * 2 + 1) (.int .i64 (k0 + 2 * k + 1)))
      have HZ := Lib.hid (show ((cu.setIfInBounds (k * 2) (.int .i64 (k0 + 2 * k))).setIfInBounds (k * 2 + 1) (.int .i64 (k0 + 2 * k + 1))).size = 2 * n by simpa using hsz)
      have HG := Lib.hid hg
      clear hBk hsz hg hB hcs
      go_wp2
      go_roundw
      case rel => exact ⟨k + 1, _, by omega, by go_num, congrArg (Value.int .i64) (by omega), HS.out, HZ.out, grown_set (grown_set HG.out _) _⟩
      case measure => simp [intOf]; omega
    · obtain rfl : k = n := by omega
      have HG := Lib.hid hg
      clear hBk hsz hg hB hcs
      go_wp2
      go_ret
      exact ⟨rfl, HG.out⟩
set_option maxHeartbeats 1000000 in
theorem FnExactFarTests_w (w : World) (s z : Int) (g0 : (Lit.int .i64 s).wf = true) (g1 : (Lit.int .i64 z).wf = true) (A : Option Addr) (c : Nat) (zs : List (Int × Int)) (hl : zs.length ≤ 9223372036854775807) (hA : Prs w A zs) (lim : Int) (g2 : (Lit.int .i64 lim).wf = true) :
    Calls Try.prog 8 #[.agg #[.int .i64 s, .int .i64 z], .slice A zs.length c, .int .i64 lim] w fun e w' => e = .returned (.bool true) ∧ Below w.heap.size w w' := by
  by_cases hn : zs.length ≤ 1048576
  · have HZ := Lib.hid (show szV 1048576 zs.length = 1048576 - zs.length by simp [szV]; omega)
    have hn0 : (0 : Int) ≤ 1048576 - zs.length := by omega
    have hd := far_len s z lim zs
    have hq0 : (0 : Int) ≤ ((farL s z lim zs).length : Int) := by omega
    go_enter Try.func8, Try.ntmps8
    go_wp2_with fail
    go_at_call 30; refine (szTestS_c _ _ _ _ (by omega) (by omega) (by assumption) _).mono ?_; rintro e w' ⟨rfl, rfl⟩
    rw [HZ.out]
    go_wp2_with fail
    go_at_call 37; refine (toModel_c _ _ _).mono ?_; rintro e w1 ⟨rfl, hb1⟩; obtain ⟨hc1, hf1, hz1⟩ := bel hb1; (try simp only [World.size_drew, World.cell?_drew, World.frozen?_drew] at hc1 hf1 hz1); (try simp only [World.heap_drewN, World.cell?_drewN, World.frozen?_drewN] at hc1 hf1 hz1); (try have hl1 : w.heap.size < w1.heap.size := by (have hq := hb1.size; (try simp at hq); omega)); (try have hm1 : w.heap.size + 1 < w1.heap.size := by (have hq := hb1.size; (try simp at hq); omega)); (try have hn1 : w.heap.size + 1 + 1 < w1.heap.size := by (have hq := hb1.size; (try simp at hq); omega)); (try have hp1 : b < w1.heap.size := by (have hq := hb1.size; (try simp at hq); omega)); (try have ho1 : b' < w1.heap.size := by (have hq := hb1.size; (try simp at hq); omega))
    have hbel1 : Below w.heap.size w w1 := by repeat (with_reducible first | exact Below.refl _ _ | assumption | refine Bel.alloc ?_ _ | refine Bel.step (by assumption) ?_ | refine Below.drew ?_ | refine Bel.drewN ?_ _ | refine Below.setCell ?_ (by first | exact Nat.le_refl _ | omega | (simp; done) | (simp; omega)) _)
    have hM1 := Blk.step hb1 (Blk.new w 62 #[.int .i64 s, .int .i64 z])
    go_wp2_with fail
    go_at_call 32; refine (toTestS_c _ _ _ hn _ (Prs.step hbel1 hA)).mono ?_; rintro e w2 ⟨rfl, hB2, hb2⟩; obtain ⟨hc2, hf2, hz2⟩ := bel hb2; (try simp only [World.size_drew, World.cell?_drew, World.frozen?_drew] at hc2 hf2 hz2); (try simp only [World.heap_drewN, World.cell?_drewN, World.frozen?_drewN] at hc2 hf2 hz2); (try have hl2 : w.heap.size < w2.heap.size := by (have hq := hb2.size; (try simp at hq); omega)); (try have hm2 : w.heap.size + 1 < w2.heap.size := by (have hq := hb2.size; (try simp at hq); omega)); (try have hn2 : w.heap.size + 1 + 1 < w2.heap.size := by (have hq := hb2.size; (try simp at hq); omega)); (try have hp2 : b < w2.heap.size := by (have hq := hb2.size; (try simp at hq); omega)); (try have ho2 : b' < w2.heap.size := by (have hq := hb2.size; (try simp at hq); omega))
    have hM2 := Blk.step hb2 hM1
    have hbel2 := Bel.step hb2 hbel1
    go_wp2_with fail
    go_at_call 36; refine (FarTests_S _ _ _ _ _ _ hn _ hB2.prs).mono ?_; rintro e w3 ⟨A3, kk3, rfl, hO3, hb3⟩; obtain ⟨hc3, hf3, hz3⟩ := bel hb3; (try simp only [World.size_drew, World.cell?_drew, World.frozen?_drew] at hc3 hf3 hz3); (try simp only [World.heap_drewN, World.cell?_drewN, World.frozen?_drewN] at hc3 hf3 hz3); (try have hl3 : w.heap.size < w3.heap.size := by (have hq := hb3.size; (try simp at hq); omega)); (try have hm3 : w.heap.size + 1 < w3.heap.size := by (have hq := hb3.size; (try simp at hq); omega)); (try have hn3 : w.heap.size + 1 + 1 < w3.heap.size := by (have hq := hb3.size; (try simp at hq); omega)); (try have hp3 : b < w3.heap.size := by (have hq := hb3.size; (try simp at hq); omega)); (try have ho3 : b' < w3.heap.size := by (have hq := hb3.size; (try simp at hq); omega))
    have hM3 := Blk.step hb3 hM2
    have hbel3 := Bel.step hb3 hbel2
    go_wp2_with fail
    go_at_call 32; refine (toTestS_c _ _ _ hn _ (Prs.step hbel3 hA)).mono ?_; rintro e w4 ⟨rfl, hB4, hb4⟩; obtain ⟨hc4, hf4, hz4⟩ := bel hb4; (try simp only [World.size_drew, World.cell?_drew, World.frozen?_drew] at hc4 hf4 hz4); (try simp only [World.heap_drewN, World.cell?_drewN, World.frozen?_drewN] at hc4 hf4 hz4); (try have hl4 : w.heap.size < w4.heap.size := by (have hq := hb4.size; (try simp at hq); omega)); (try have hm4 : w.heap.size + 1 < w4.heap.size := by (have hq := hb4.size; (try simp at hq); omega)); (try have hn4 : w.heap.size + 1 + 1 < w4.heap.size := by (have hq := hb4.size; (try simp at hq); omega)); (try have hp4 : b < w4.heap.size := by (have hq := hb4.size; (try simp at hq); omega)); (try have ho4 : b' < w4.heap.size := by (have hq := hb4.size; (try simp at hq); omega))
    have hM4 := Blk.step hb4 hM3
    have hbel4 := Bel.step hb4 hbel3
    have hO4 := Own.step hb4 hO3
    have m0 : w4.cell? ⟨w.heap.size, 0, none⟩ = some (.int .i64 s) := by rw [hM4.cell]; rfl
    have m1 : w4.cell? ⟨w.heap.size, 1, none⟩ = some (.int .i64 z) := by rw [hM4.cell]; rfl
    go_wp2_with fail
    go_at_call 37; refine (toModel_c _ _ _).mono ?_; rintro e w5 ⟨rfl, hb5⟩; obtain ⟨hc5, hf5, hz5⟩ := bel hb5; (try simp only [World.size_drew, World.cell?_drew, World.frozen?_drew] at hc5 hf5 hz5); (try simp only [World.heap_drewN, World.cell?_drewN, World.frozen?_drewN] at hc5 hf5 hz5); (try have hl5 : w.heap.size < w5.heap.size := by (have hq := hb5.size; (try simp at hq); omega)); (try have hm5 : w.heap.size + 1 < w5.heap.size := by (have hq := hb5.size; (try simp at hq); omega)); (try have hn5 : w.heap.size + 1 + 1 < w5.heap.size := by (have hq := hb5.size; (try simp at hq); omega)); (try have hp5 : b < w5.heap.size := by (have hq := hb5.size; (try simp at hq); omega)); (try have ho5 : b' < w5.heap.size := by (have hq := hb5.size; (try simp at hq); omega))
    have hM5 := Blk.step hb5 hM4
    have hB5 := Blk.step hb5 hB4
    have hbel5 := Bel.step hb5 hbel4
    have hO5 := Own.step hb5 hO4
    go_wp2_with fail
    go_at_call 38; refine (FarTests_I _ _ _ _ _ _ hn _ hB5.prs).mono ?_; rintro e w6 ⟨A6, kk6, rfl, hO6, hb6⟩; obtain ⟨hc6, hf6, hz6⟩ := bel hb6; (try simp only [World.size_drew, World.cell?_drew, World.frozen?_drew] at hc6 hf6 hz6); (try simp only [World.heap_drewN, World.cell?_drewN, World.frozen?_drewN] at hc6 hf6 hz6); (try have hl6 : w.heap.size < w6.heap.size := by (have hq := hb6.size; (try simp at hq); omega)); (try have hm6 : w.heap.size + 1 < w6.heap.size := by (have hq := hb6.size; (try simp at hq); omega)); (try have hn6 : w.heap.size + 1 + 1 < w6.heap.size := by (have hq := hb6.size; (try simp at hq); omega)); (try have hp6 : b < w6.heap.size := by (have hq := hb6.size; (try simp at hq); omega)); (try have ho6 : b' < w6.heap.size := by (have hq := hb6.size; (try simp at hq); omega))
    have hM6 := Blk.step hb6 hM5
    have hB6 := Blk.step hb6 hB5
    have hbel6 := Bel.step hb6 hbel5
    have hO3f := Own.step hb6 hO5
    have s1 := hb1.size
    have s2 := hb2.size
    have s3 := hb3.size
    have s4 := hb4.size
    have s5 := hb5.size
    have s6 := hb6.size
    simp only [World.size_alloc] at s1
    have x1lt := hB4.lt
    have o3g : (Value.slice A3 (farL s z lim zs).length kk3).ownBlock = none ∨ (Value.slice A3 (farL s z lim zs).length kk3).ownBlock ≠ some w3.heap.size := own_ne_lo hO3 (Nat.le_refl _)
    have o6g : (Value.slice A6 (farL s z lim zs).length kk6).ownBlock = none ∨ (Value.slice A6 (farL s z lim zs).length kk6).ownBlock ≠ some w3.heap.size := own_ne_hi hO6 (by omega)
    have o36 : (Value.slice A3 (farL s z lim zs).length kk3).ownBlock = none ∨ (Value.slice A3 (farL s z lim zs).length kk3).ownBlock ≠ (Value.slice A6 (farL s z lim zs).length kk6).ownBlock := own_ne_own hO3 hO6 (by omega)
    have o6m : ∀ k, (Value.slice A6 (farL s z lim zs).length kk6).ownBlock = some k → w.heap.size < k := fun k hk => by have := (hO6.lt k hk).1; omega
    clear hM1 hM2 hM3 hM4 hM5 hO3 hO4 hO5 hB2 hB4 hB5 hb1 hc1 hf1 hz1 hb2 hc2 hf2 hz2 hb3 hc3 hf3 hz3 hb4 hc4 hf4 hz4 hb5 hc5 hf5 hz5 hb6 hc6 hf6 hz6 m0 m1
    go_wp2_with fail
    go_at_call 29; refine (toB (eqInt64S_c _ _ _ _ _ _ (by omega) (by omega) _ hO6.ints hO3f.ints)).mono ?_; rintro e w7 ⟨rfl, hb7⟩; obtain ⟨hc7, hf7, hz7⟩ := bel hb7; (try simp only [World.size_drew, World.cell?_drew, World.frozen?_drew] at hc7 hf7 hz7); (try simp only [World.heap_drewN, World.cell?_drewN, World.frozen?_drewN] at hc7 hf7 hz7); (try have hl7 : w.heap.size < w7.heap.size := by (have hq := hb7.size; (try simp at hq); omega)); (try have hm7 : w.heap.size + 1 < w7.heap.size := by (have hq := hb7.size; (try simp at hq); omega)); (try have hn7 : w.heap.size + 1 + 1 < w7.heap.size := by (have hq := hb7.size; (try simp at hq); omega)); (try have hp7 : b < w7.heap.size := by (have hq := hb7.size; (try simp at hq); omega)); (try have ho7 : b' < w7.heap.size := by (have hq := hb7.size; (try simp at hq); omega))
    rw [eqL_self]
    have hM7 := Blk.step hb7 hM6
    have hB7 := Blk.step hb7 hB6
    have hbel7 := Bel.step hb7 hbel6
    have hO37 := Own.step hb7 hO3f
    have hO67 := Own.step hb7 hO6
    go_wp2_with fail
    go_at_call 32; refine (toTestS_c _ _ _ hn _ (Prs.step hbel7 hA)).mono ?_; rintro e w8 ⟨rfl, hB8, hb8⟩; obtain ⟨hc8, hf8, hz8⟩ := bel hb8; (try simp only [World.size_drew, World.cell?_drew, World.frozen?_drew] at hc8 hf8 hz8); (try simp only [World.heap_drewN, World.cell?_drewN, World.frozen?_drewN] at hc8 hf8 hz8); (try have hl8 : w.heap.size < w8.heap.size := by (have hq := hb8.size; (try simp at hq); omega)); (try have hm8 : w.heap.size + 1 < w8.heap.size := by (have hq := hb8.size; (try simp at hq); omega)); (try have hn8 : w.heap.size + 1 + 1 < w8.heap.size := by (have hq := hb8.size; (try simp at hq); omega)); (try have hp8 : b < w8.heap.size := by (have hq := hb8.size; (try simp at hq); omega)); (try have ho8 : b' < w8.heap.size := by (have hq := hb8.size; (try simp at hq); omega))
    have hM8 := Blk.step hb8 hM7
    have hX8 := Blk.step hb8 hB7
    have hbel8 := Bel.step hb8 hbel7
    have hO38 := Own.step hb8 hO37
    have hO68 := Own.step hb8 hO67
    go_wp2_with fail
    go_at_call 35; refine (eqTestS_c _ _ _ _ _ _ hn hn _ hX8.prs hB8.prs).mono ?_; rintro e w9 ⟨rfl, hb9⟩; obtain ⟨hc9, hf9, hz9⟩ := bel hb9; (try simp only [World.size_drew, World.cell?_drew, World.frozen?_drew] at hc9 hf9 hz9); (try simp only [World.heap_drewN, World.cell?_drewN, World.frozen?_drewN] at hc9 hf9 hz9); (try have hl9 : w.heap.size < w9.heap.size := by (have hq := hb9.size; (try simp at hq); omega)); (try have hm9 : w.heap.size + 1 < w9.heap.size := by (have hq := hb9.size; (try simp at hq); omega)); (try have hn9 : w.heap.size + 1 + 1 < w9.heap.size := by (have hq := hb9.size; (try simp at hq); omega)); (try have hp9 : b < w9.heap.size := by (have hq := hb9.size; (try simp at hq); omega)); (try have ho9 : b' < w9.heap.size := by (have hq := hb9.size; (try simp at hq); omega))
    rw [eqL_self]
    have hM9 := Blk.step hb9 hM8
    have hX9 := Blk.step hb9 hX8
    have hbel9 := Bel.step hb9 hbel8
    have hO39 := Own.step hb9 hO38
    have hO69 := Own.step hb9 hO68
    clear hM6 hM7 hM8 hB6 hB7 hX8 hB8 hO3f hO37 hO38 hO6 hO67 hO68 hb7 hc7 hf7 hz7 hb8 hc8 hf8 hz8 hb9 hc9 hf9 hz9
    go_wp2_with fail
    refine (markTestS_c w3.heap.size zs.length zs.length 1 (by omega) (by omega) hn _ _ (by rw [icells_size, flat_len]) hX9).mono ?_; rintro e w10 ⟨rfl, hg10⟩
    have hM10 := Blk.grown hM9 hg10 (fun h => by injection h; omega)
    have hbel10 := Bel.grown hbel9 hg10 (fun k hk => by cases hk; omega)
    have hO310 := Own.kept hO39 hg10 o3g
    have hO610 := Own.kept hO69 hg10 o6g
    go_wp2_with fail
    go_at_call 29; refine (toB (eqInt64S_c _ _ _ _ _ _ (by omega) (by omega) _ hO610.ints hO310.ints)).mono ?_; rintro e w11 ⟨rfl, hb11⟩; obtain ⟨hc11, hf11, hz11⟩ := bel hb11; (try simp only [World.size_drew, World.cell?_drew, World.frozen?_drew] at hc11 hf11 hz11); (try simp only [World.heap_drewN, World.cell?_drewN, World.frozen?_drewN] at hc11 hf11 hz11); (try have hl11 : w.heap.size < w11.heap.size := by (have hq := hb11.size; (try simp at hq); omega)); (try have hm11 : w.heap.size + 1 < w11.heap.size := by (have hq := hb11.size; (try simp at hq); omega)); (try have hn111 : w.heap.size + 1 + 1 < w11.heap.size := by (have hq := hb11.size; (try simp at hq); omega)); (try have hp11 : b < w11.heap.size := by (have hq := hb11.size; (try simp at hq); omega)); (try have ho11 : b' < w11.heap.size := by (have hq := hb11.size; (try simp at hq); omega))
    rw [eqL_self]
    have hM11 := Blk.step hb11 hM10
    have hbel11 := Bel.step hb11 hbel10
    have hO311 := Own.step hb11 hO310
    have hO611 := Own.step hb11 hO610
    go_wp2_with fail
    refine (markInt64S_c _ _ _ _ (by omega) (by omega) (by omega) _ hO611).mono ?_; rintro e w12 ⟨rfl, hK12, hg12⟩
    have hM12 := Blk.grown hM11 hg12 (fun h => Nat.lt_irrefl _ (o6m _ h.symm))
    have hbel12 := Bel.grown hbel11 hg12 (fun k hk => Nat.le_of_lt (o6m k hk))
    have hO312 := Own.kept hO311 hg12 o36
    go_wp2_with fail
    refine (heldInt64S_c _ (farL s z lim zs).length _ _ (by omega) (by omega) (by omega) _ hK12).mono ?_; rintro e w' ⟨rfl, rfl⟩
    have m0 : w12.cell? ⟨w.heap.size, 0, none⟩ = some (.int .i64 s) := by rw [hM12.cell]; rfl
    have m1 : w12.cell? ⟨w.heap.size, 1, none⟩ = some (.int .i64 z) := by rw [hM12.cell]; rfl
    clear hM9 hM10 hM11 hX9 hg10 hg12 hO39 hO310 hO311 hO69 hO610 hO611 hb11 hc11 hf11 hz11
    go_wp2_with fail
    go_at_call 37; refine (toModel_c _ _ _).mono ?_; rintro e w13 ⟨rfl, hb13⟩; obtain ⟨hc13, hf13, hz13⟩ := bel hb13; (try simp only [World.size_drew, World.cell?_drew, World.frozen?_drew] at hc13 hf13 hz13); (try simp only [World.heap_drewN, World.cell?_drewN, World.frozen?_drewN] at hc13 hf13 hz13); (try have hl13 : w.heap.size < w13.heap.size := by (have hq := hb13.size; (try simp at hq); omega)); (try have hm13 : w.heap.size + 1 < w13.heap.size := by (have hq := hb13.size; (try simp at hq); omega)); (try have hn133 : w.heap.size + 1 + 1 < w13.heap.size := by (have hq := hb13.size; (try simp at hq); omega)); (try have hp13 : b < w13.heap.size := by (have hq := hb13.size; (try simp at hq); omega)); (try have ho13 : b' < w13.heap.size := by (have hq := hb13.size; (try simp at hq); omega))
    have hbel13 := Bel.step hb13 hbel12
    have hO313 := Own.step hb13 hO312
    have hK13 := Own.step hb13 hK12
    go_wp2_with fail
    go_at_call 32; refine (toTestS_c _ _ _ hn _ (Prs.step hbel13 hA)).mono ?_; rintro e w14 ⟨rfl, hB14, hb14⟩; obtain ⟨hc14, hf14, hz14⟩ := bel hb14; (try simp only [World.size_drew, World.cell?_drew, World.frozen?_drew] at hc14 hf14 hz14); (try simp only [World.heap_drewN, World.cell?_drewN, World.frozen?_drewN] at hc14 hf14 hz14); (try have hl14 : w.heap.size < w14.heap.size := by (have hq := hb14.size; (try simp at hq); omega)); (try have hm14 : w.heap.size + 1 < w14.heap.size := by (have hq := hb14.size; (try simp at hq); omega)); (try have hn144 : w.heap.size + 1 + 1 < w14.heap.size := by (have hq := hb14.size; (try simp at hq); omega)); (try have hp14 : b < w14.heap.size := by (have hq := hb14.size; (try simp at hq); omega)); (try have ho14 : b' < w14.heap.size := by (have hq := hb14.size; (try simp at hq); omega))
    have hbel14 := Bel.step hb14 hbel13
    have hO314 := Own.step hb14 hO313
    have hK14 := Own.step hb14 hK13
    go_wp2_with fail
    go_at_call 38; refine (FarTests_I _ _ _ _ _ _ hn _ hB14.prs).mono ?_; rintro e w15 ⟨A15, kk15, rfl, hO15, hb15⟩; obtain ⟨hc15, hf15, hz15⟩ := bel hb15; (try simp only [World.size_drew, World.cell?_drew, World.frozen?_drew] at hc15 hf15 hz15); (try simp only [World.heap_drewN, World.cell?_drewN, World.frozen?_drewN] at hc15 hf15 hz15); (try have hl15 : w.heap.size < w15.heap.size := by (have hq := hb15.size; (try simp at hq); omega)); (try have hm15 : w.heap.size + 1 < w15.heap.size := by (have hq := hb15.size; (try simp at hq); omega)); (try have hn155 : w.heap.size + 1 + 1 < w15.heap.size := by (have hq := hb15.size; (try simp at hq); omega)); (try have hp15 : b < w15.heap.size := by (have hq := hb15.size; (try simp at hq); omega)); (try have ho15 : b' < w15.heap.size := by (have hq := hb15.size; (try simp at hq); omega))
    have hbel15 := Bel.step hb15 hbel14
    have hO315 := Own.step hb15 hO314
    have hK15 := Own.step hb15 hK14
    go_wp2_with fail
    go_at_call 29; refine (toB (eqInt64S_c _ _ _ _ _ _ (by omega) (by omega) _ hO15.ints hO315.ints)).mono ?_; rintro e w16 ⟨rfl, hb16⟩; obtain ⟨hc16, hf16, hz16⟩ := bel hb16; (try simp only [World.size_drew, World.cell?_drew, World.frozen?_drew] at hc16 hf16 hz16); (try simp only [World.heap_drewN, World.cell?_drewN, World.frozen?_drewN] at hc16 hf16 hz16); (try have hl16 : w.heap.size < w16.heap.size := by (have hq := hb16.size; (try simp at hq); omega)); (try have hm16 : w.heap.size + 1 < w16.heap.size := by (have hq := hb16.size; (try simp at hq); omega)); (try have hn166 : w.heap.size + 1 + 1 < w16.heap.size := by (have hq := hb16.size; (try simp at hq); omega)); (try have hp16 : b < w16.heap.size := by (have hq := hb16.size; (try simp at hq); omega)); (try have ho16 : b' < w16.heap.size := by (have hq := hb16.size; (try simp at hq); omega))
    rw [eqL_self]
    have hbel16 := Bel.step hb16 hbel15
    have hK16 := Own.step hb16 hK15
    go_wp2_with fail
    refine (heldInt64S_c _ (farL s z lim zs).length _ _ (by omega) (by omega) (by omega) _ hK16).mono ?_; rintro e w' ⟨rfl, rfl⟩
    go_wp2
    go_ret
    exact ⟨rfl, hbel16⟩
  · have HZ := Lib.hid (show szV 1048576 zs.length = -1 by simp [szV]; omega)
    go_enter Try.func8, Try.ntmps8
    go_wp2_with fail
    go_at_call 30; refine (szTestS_c _ _ _ _ (by omega) (by omega) (by assumption) _).mono ?_; rintro e w' ⟨rfl, rfl⟩
    rw [HZ.out]
    go_wp2
    go_ret
    exact ⟨rfl, by repeat (with_reducible first | exact Below.refl _ _ | assumption | refine Bel.alloc ?_ _ | refine Bel.step (by assumption) ?_ | refine Below.drew ?_ | refine Bel.drewN ?_ _ | refine Below.setCell ?_ (by first | exact Nat.le_refl _ | omega | (simp; done) | (simp; omega)) _)⟩
end Go.Proofs.Ytjhkpejejkkjlaa
