/- Draws: projections and rational points. Conditions: as stated at each contract. -/
import Derived.Test.YthfphjbaglgacaaProg
import Derived.Test.YthfphjbaglgacaaBase
import Derived.Test.YthfphjbaglgacaaRw
import Derived.Test.YthfphjbaglgacaaRg
import Derived.Test.YthfphjbaglgacaaL01
import Derived.Test.YthfphjbaglgacaaCp
import Derived.Test.YthfphjbaglgacaaCm
import Derived.Test.YthfphjbaglgacaaL18
import Derived.Test.YthfphjbaglgacaaL25
import Derived.Test.YthfphjbaglgacaaL25b
import Derived.Test.YthfphjbaglgacaaD00
import Derived.Test.YthfphjbaglgacaaD01
import Derived.Test.YthfphjbaglgacaaD02
import Derived.Test.YthfphjbaglgacaaD03
import Derived.Test.YthfphjbaglgacaaD18
import Derived.WalkKit
import Derived.WalkSpells
import Derived.WalkLawsBesides
import Derived.Lib.Hide
import Derived.Deep.QuietTactic
import Derived.BigQuiet
import Derived.Deep.Draws
import Derived.Deep.RegionHeld3
import Derived.Deep.Cut
import Derived.Deep.AppendLies
namespace Go.Proofs.Ythfphjbaglgacaa
open Go.RowKit
set_option linter.unusedVariables false
set_option linter.unusedSimpArgs false
/-- A store into an element of an owned row. -/
theorem wpList_store_own {P : Program} {ops : Array Oper} {rest : List Oper} {op : Oper} {a : Act} {w : World} {Q : Exit → Act → World → Prop} (ty : TypeId) (x y : Operand) (i : Nat) (v : Int) {B b n c : Nat} {T : TypeId} {m : List Int} (hO : Own w B T (.slice (some ⟨b, 0, none⟩) n c) m)
    (hgd : op.guard = none) (ho : op.op = .store ty x y) (hx : a.eval x = .pointer (some ⟨b, i, none⟩)) (hy : a.eval y = .int .i64 v) (hi : (P.info? ty).map (·.size) = some 1) (hl : i < m.length)
    (h : ∀ w', Own w' B T (.slice (some ⟨b, 0, none⟩) n c) (m.set i v) → Kp b w w' → wpList P ops Q rest (a.put op.dst undef) w') : wpList P ops Q (op :: rest) a w := by
  obtain ⟨A, c', e, hc, hm, _, hF⟩ := hO.form
  injection e with e1 e2 e3
  subst e2 e3
  obtain ⟨g, cur, e4, hg, hB, hs, ht⟩ := hF (by omega)
  rw [e4] at e1
  injection e1 with e1
  injection e1 with e1
  subst e1
  refine wpList_store_part ty x y b i (.int .i64 v) #[.int .i64 v] hB hgd ho hx hy rfl hi (by simp [Value.oneCell']) (by simp; omega) ?_
  intro w' hB' hk
  refine h w' ?_ hk
  simp only [setL] at hB'
  have h2 := Own.of_cells (zs := m.set i v) (B := B) (c := c) hB' (by rw [Array.size_setIfInBounds]; exact hs) (by rw [Array.toList_setIfInBounds, List.length_set, List.take_set, ht, List.map_set]) hg (by rw [List.length_set]; exact hc) hm
  rw [List.length_set] at h2
  exact h2
theorem Own.take {w : World} {B b n c : Nat} {T : TypeId} {m : List Int} (h : Own w B T (.slice (some ⟨b, 0, none⟩) n c) m) (k : Nat) (hk : 0 < k) (hn : k ≤ m.length) : Own w B T (.slice (some ⟨b, 0, none⟩) (m.take k).length c) (m.take k) := by
  obtain ⟨A, c', e, hc, hm, _, hF⟩ := h.form
  injection e with e1 e2 e3
  subst e2 e3
  obtain ⟨g, cur, e4, hg, hB, hs, ht⟩ := hF (by omega)
  rw [e4] at e1
  injection e1 with e1
  injection e1 with e1
  subst e1
  refine Own.of_cells hB hs ?_ hg (by rw [List.length_take]; omega) hm
  rw [List.length_take, Nat.min_eq_left hn, List.map_take, ← ht, List.take_take, Nat.min_eq_left hn]
/-- A call that draws a list of eight or nine integers in memory of its own. -/
def DrM (X : Nat) (A : Option Addr) (zs : List Int) (w : World) (e : Ending) (w' : World) : Prop := ∃ (m : List Int) (g c : Nat), e = .returned (.slice (some ⟨g, 0, none⟩) m.length c) ∧ m.length ≤ 9 ∧ Own w' w.heap.size 2 (.slice (some ⟨g, 0, none⟩) m.length c) m ∧ Dr X A zs w w'
set_option maxRecDepth 20000 in
set_option maxHeartbeats 4000000 in
theorem l25Draw_c (X : Nat) (A : Option Addr) (zs : List Int) (w : World) (hS : Src w X A zs) :
    Calls Try.prog 88 #[.pointer (some ⟨X, 0, none⟩)] w (DrM X A zs w) := by
  have hlX := hS.lt
  have HS := Lib.hid (Src.alloc (.cells #[] 2) hS)
  have HK := Lib.hid (Kp.alloc (.cells #[] 2) (Kp.refl X w))
  have HO : Hid (Own (w.alloc (.cells #[] 2)) w.heap.size 2 (.slice (some ⟨w.heap.size, 0, none⟩) 0 0) []) := Own.new w w.heap.size 2 (Nat.le_refl _)
  clear hS
  go_enter Try.func88, Try.ntmps88
  go_wp2
  go_loopw [3, 4] (fun l n wr => ∃ (k : Nat) (m : List Int) (g c : Nat), k ≤ 9 ∧ Hid (m.length = k) ∧ n = .int .i64 k ∧ l = .slice (some ⟨g, 0, none⟩) m.length c ∧ w.heap.size ≤ g ∧ Hid (Src wr X A zs) ∧ Hid (Kp X w wr) ∧ Hid (Own wr w.heap.size 2 (.slice (some ⟨g, 0, none⟩) m.length c) m)) (fun _ n _ => 9 - (intOf n).toNat)
  case atStart => exact ⟨0, [], w.heap.size, 0, by omega, rfl, rfl, rfl, Nat.le_refl _, HS, HK, HO⟩
  case round =>
    clear HS HK HO
    obtain ⟨k, m, g, c, hk, HM, rfl, rfl, hg, HS, HK, HO⟩ := hrel
    have hlS := HS.out.lt
    have hlO := (World.ownsRow.lt HO.out g rfl).2
    by_cases hk9 : k < 9
    · go_wp2_with fail
      go_at_call 73; refine (l01Next_c X A zs _ (by omega) _ (by repeat (with_reducible first | exact HS.out | refine Src.alloc _ ?_ | refine Src.drew ?_ | refine Src.drewN _ ?_ | (refine Src.far _ ?_ ?_; (have := HS.out.lt; first | omega | (simp; omega))) | (refine Src.setRow _ ?_ ?_; (have := HS.out.lt; first | omega | (simp; omega)))))).mono ?_; rintro e w1 ⟨x1, rfl, hx1, hy1, hd1⟩; (try rw [Int.max_eq_left (by omega)] at hy1); have hkb := hd1.kp; have hka := Kp.ka HK.out hkb (by repeat (with_reducible first | exact Kp.refl _ _ | refine Kp.alloc _ ?_ | refine Kp.drew ?_ | refine Kp.drewN _ ?_)); have hlS1 := HS.out.lt; (try (replace HO := Lib.hid (Own.kp3 hka hkb (by first | omega | (simp; omega)) (by first | omega | (simp; omega)) HO.out))); replace HK := Lib.hid (Kp.trans HK.out (Kp.trans hka hkb)); have hsz1 := hkb.size_; have hsy1 := hka.size_; (try simp only [World.size_alloc, World.size_drew, World.heap_drewN, World.size_setCell] at hsz1 hsy1); replace HS := Lib.hid hd1.src; clear hka hkb hd1 hlS1; have hlS1 := HS.out.lt
      have hlO1 := (World.ownsRow.lt HO.out g rfl).2
      have hml : m.length ≤ 9 := by rw [HM.out]; omega
      by_cases h4 : (k : Int) % 4 = 0
      · go_wp2_with fail
        go_at_call 73; refine (l01Next_c X A zs _ (by omega) _ (by repeat (with_reducible first | exact HS.out | refine Src.alloc _ ?_ | refine Src.drew ?_ | refine Src.drewN _ ?_ | (refine Src.far _ ?_ ?_; (have := HS.out.lt; first | omega | (simp; omega))) | (refine Src.setRow _ ?_ ?_; (have := HS.out.lt; first | omega | (simp; omega)))))).mono ?_; rintro e w2 ⟨x2, rfl, hx2, hy2, hd2⟩; (try rw [Int.max_eq_left (by omega)] at hy2); have hkb := hd2.kp; have hka := Kp.ka HK.out hkb (by repeat (with_reducible first | exact Kp.refl _ _ | refine Kp.alloc _ ?_ | refine Kp.drew ?_ | refine Kp.drewN _ ?_)); have hlS2 := HS.out.lt; (try (replace HO := Lib.hid (Own.kp3 hka hkb (by first | omega | (simp; omega)) (by first | omega | (simp; omega)) HO.out))); replace HK := Lib.hid (Kp.trans HK.out (Kp.trans hka hkb)); have hsz2 := hkb.size_; have hsy2 := hka.size_; (try simp only [World.size_alloc, World.size_drew, World.heap_drewN, World.size_setCell] at hsz2 hsy2); replace HS := Lib.hid hd2.src; clear hka hkb hd2 hlS2; have hlS2 := HS.out.lt
        have hlO2 := (World.ownsRow.lt HO.out g rfl).2
        go_wp2_with (first | (at_builtin; refine wpList_app1K rfl _ _ 43 rfl w.heap.size 2 Try.underlying43 info64 (by omega) _ m rfl (World.ownsRow.alloc HO.out _) w2.heap.size _ rfl (by simp [go_sem]; rfl) (by omega) (by simp; omega) ?_; intro g' c' w9 hO9 hk9 hg9; have hkb : Kp g _ w9 := hk9; have hka := Kp.ka HK.out hkb (Kp.alloc _ (Kp.refl _ _)); replace HS := Lib.hid (Src.kpg2 HS.out (Bel.alloc (Below.refl _ _) _) hkb (by omega)); replace HK := Lib.hid (Kp.own hkb (by omega) (Kp.trans HK.out hka)); have hgb := (World.ownsRow.lt hO9 g' rfl); have hs9 := hkb.size_; simp only [World.size_alloc] at hs9; clear hka hkb hk9 HO))
        have HO := Lib.hid hO9
        clear hO9
        go_roundw
        case rel => exact ⟨k + 1, m ++ [1 + x2], g', c', by omega, Lib.hid (by rw [List.length_append, HM.out]; rfl), by go_num, by simp, by omega, HS, HK, Lib.hid (by have h := HO.out; rw [List.length_append]; exact h)⟩
        case measure => simp [intOf]; omega
      · go_wp2_with (first | (at_builtin; refine wpList_app1K rfl _ _ 43 rfl w.heap.size 2 Try.underlying43 info64 (by omega) _ m rfl (World.ownsRow.alloc HO.out _) w1.heap.size _ rfl (by simp [go_sem]; rfl) (by omega) (by simp; omega) ?_; intro g' c' w9 hO9 hk9 hg9; have hkb : Kp g _ w9 := hk9; have hka := Kp.ka HK.out hkb (Kp.alloc _ (Kp.refl _ _)); replace HS := Lib.hid (Src.kpg2 HS.out (Bel.alloc (Below.refl _ _) _) hkb (by omega)); replace HK := Lib.hid (Kp.own hkb (by omega) (Kp.trans HK.out hka)); have hgb := (World.ownsRow.lt hO9 g' rfl); have hs9 := hkb.size_; simp only [World.size_alloc] at hs9; clear hka hkb hk9 HO))
        have HO := Lib.hid hO9
        clear hO9
        go_roundw
        case rel => exact ⟨k + 1, m ++ [x1 - 4], g', c', by omega, Lib.hid (by rw [List.length_append, HM.out]; rfl), by go_num, by simp, by omega, HS, HK, Lib.hid (by have h := HO.out; rw [List.length_append]; exact h)⟩
        case measure => simp [intOf]; omega
    obtain rfl : k = 9 := by omega
    have hm8 : 8 < m.length := by rw [HM.out]; omega
    clear hk9 hk
    have hl8 : ¬ (m.length : Int) ≤ 8 := by omega
    have hl7 : ¬ (m.length : Int) ≤ 7 := by omega
    have hl6 : ¬ (m.length : Int) ≤ 6 := by omega
    have hl2 : ¬ (m.length : Int) ≤ 2 := by omega
    have hl1 : ¬ (m.length : Int) ≤ 1 := by omega
    have hl0 : ¬ (m.length : Int) ≤ 0 := by omega
    have hln : 0 < m.length := by omega
    go_wp2_with fail
    go_at_call 73; refine (l01Next_c X A zs _ (by omega) _ (by repeat (with_reducible first | exact HS.out | refine Src.alloc _ ?_ | refine Src.drew ?_ | refine Src.drewN _ ?_ | (refine Src.far _ ?_ ?_; (have := HS.out.lt; first | omega | (simp; omega))) | (refine Src.setRow _ ?_ ?_; (have := HS.out.lt; first | omega | (simp; omega)))))).mono ?_; rintro e w3 ⟨x3, rfl, hx3, hy3, hd3⟩; (try rw [Int.max_eq_left (by omega)] at hy3); have hkb := hd3.kp; have hka := Kp.ka HK.out hkb (by repeat (with_reducible first | exact Kp.refl _ _ | refine Kp.alloc _ ?_ | refine Kp.drew ?_ | refine Kp.drewN _ ?_)); have hlS3 := HS.out.lt; (try (replace HO := Lib.hid (Own.kp3 hka hkb (by first | omega | (simp; omega)) (by first | omega | (simp; omega)) HO.out))); replace HK := Lib.hid (Kp.trans HK.out (Kp.trans hka hkb)); have hsz3 := hkb.size_; have hsy3 := hka.size_; (try simp only [World.size_alloc, World.size_drew, World.heap_drewN, World.size_setCell] at hsz3 hsy3); replace HS := Lib.hid hd3.src; clear hka hkb hd3 hlS3; have hlS3 := HS.out.lt
    have hlO3 := (World.ownsRow.lt HO.out g rfl).2
    have hfin : ∀ (m' : List Int) (W : World), m'.length = m.length → Own W w.heap.size 2 (.slice (some ⟨g, 0, none⟩) m.length c) m' → Src W X A zs → Kp X w W → DrM X A zs w (.returned (.slice (some ⟨g, 0, none⟩) m.length c)) W := by
      intro m' W h1 h2 h3 h4
      rw [← h1] at h2 ⊢
      exact ⟨m', g, c, rfl, by rw [h1, HM.out]; omega, h2, h3, h4⟩
    have hc8 : 8 ≤ c := by obtain ⟨A', c', e, hc, _⟩ := HO.out.form; injection e with _ _ e3; omega
    have hc8' : ¬ (c : Int) < 8 := by omega
    have hct : ∀ (m' : List Int) (W : World), m'.length = m.length → Own W w.heap.size 2 (.slice (some ⟨g, 0, none⟩) m.length c) m' → Src W X A zs → Kp X w W → DrM X A zs w (.returned (.slice (some ⟨g, 0, none⟩) 8 c)) W := by
      intro m' W h1 h2 h3 h4
      have ht := h2.take 8 (by omega) (by omega)
      have e8 : (m'.take 8).length = 8 := by rw [List.length_take]; omega
      have e : DrM X A zs w (.returned (.slice (some ⟨g, 0, none⟩) (m'.take 8).length c)) W := ⟨m'.take 8, g, c, rfl, by omega, ht, h3, h4⟩
      rw [e8] at e
      exact e
    have HCt := Lib.hid hct
    clear hct
    have HFin := Lib.hid hfin
    clear hfin
    by_cases h3 : x3 = 0
    · go_wp2_with (first | (refine wpList_store_own 2 _ _ _ 0 HO.out rfl rfl rfl rfl (by kernel_rfl) (by (try simp only [List.length_set]); omega) ?_; intro wS hOS hkb; replace HO := Lib.hid hOS; replace HS := Lib.hid (Src.kpg hkb (by omega) HS.out); replace HK := Lib.hid (Kp.own hkb (by omega) HK.out); have hsS := hkb.size_; clear hkb hOS))
      go_at_call 73; refine (l01Next_c X A zs _ (by omega) _ (by repeat (with_reducible first | exact HS.out | refine Src.alloc _ ?_ | refine Src.drew ?_ | refine Src.drewN _ ?_ | (refine Src.far _ ?_ ?_; (have := HS.out.lt; first | omega | (simp; omega))) | (refine Src.setRow _ ?_ ?_; (have := HS.out.lt; first | omega | (simp; omega)))))).mono ?_; rintro e w4 ⟨x4, rfl, hx4, hy4, hd4⟩; (try rw [Int.max_eq_left (by omega)] at hy4); have hkb := hd4.kp; have hka := Kp.ka HK.out hkb (by repeat (with_reducible first | exact Kp.refl _ _ | refine Kp.alloc _ ?_ | refine Kp.drew ?_ | refine Kp.drewN _ ?_)); have hlS4 := HS.out.lt; (try (replace HO := Lib.hid (Own.kp3 hka hkb (by first | omega | (simp; omega)) (by first | omega | (simp; omega)) HO.out))); replace HK := Lib.hid (Kp.trans HK.out (Kp.trans hka hkb)); have hsz4 := hkb.size_; have hsy4 := hka.size_; (try simp only [World.size_alloc, World.size_drew, World.heap_drewN, World.size_setCell] at hsz4 hsy4); replace HS := Lib.hid hd4.src; clear hka hkb hd4 hlS4; have hlS4 := HS.out.lt
      by_cases h4 : x4 = 0
      · go_wp2_with fail
        go_at_call 73; refine (l01Next_c X A zs _ (by omega) _ (by repeat (with_reducible first | exact HS.out | refine Src.alloc _ ?_ | refine Src.drew ?_ | refine Src.drewN _ ?_ | (refine Src.far _ ?_ ?_; (have := HS.out.lt; first | omega | (simp; omega))) | (refine Src.setRow _ ?_ ?_; (have := HS.out.lt; first | omega | (simp; omega)))))).mono ?_; rintro e w5 ⟨x5, rfl, hx5, hy5, hd5⟩; (try rw [Int.max_eq_left (by omega)] at hy5); have hkb := hd5.kp; have hka := Kp.ka HK.out hkb (by repeat (with_reducible first | exact Kp.refl _ _ | refine Kp.alloc _ ?_ | refine Kp.drew ?_ | refine Kp.drewN _ ?_)); have hlS5 := HS.out.lt; (try (replace HO := Lib.hid (Own.kp3 hka hkb (by first | omega | (simp; omega)) (by first | omega | (simp; omega)) HO.out))); replace HK := Lib.hid (Kp.trans HK.out (Kp.trans hka hkb)); have hsz5 := hkb.size_; have hsy5 := hka.size_; (try simp only [World.size_alloc, World.size_drew, World.heap_drewN, World.size_setCell] at hsz5 hsy5); replace HS := Lib.hid hd5.src; clear hka hkb hd5 hlS5; have hlS5 := HS.out.lt
        obtain ⟨j, rfl⟩ : ∃ j : Nat, x5 = j := ⟨x5.toNat, by omega⟩
        have hj9 : j < m.length := by omega
        have hj9' : ¬ (m.length : Int) ≤ j := by omega
        go_wp2_with fail
        go_at_call 72; refine (l01Pick_c X A zs _ _ 2 _ _ (by repeat (with_reducible first | exact HS.out | refine Src.alloc _ ?_ | refine Src.drew ?_ | refine Src.drewN _ ?_ | (refine Src.far _ ?_ ?_; (have := HS.out.lt; first | omega | (simp; omega))) | (refine Src.setRow _ ?_ ?_; (have := HS.out.lt; first | omega | (simp; omega))))) (by repeat (first | exact Blk.new _ _ _ | refine Blk.alloc _ ?_)) (by rfl) (by omega) (by omega) (by simp [isI]) (Nat.ne_of_gt (by have := HS.out.lt; first | omega | (simp; omega)))).mono ?_; rintro e w6 ⟨x6, i6, hi6, hp6, rfl, hd6⟩; have HP6 := Lib.hid hp6; clear hp6; have hkb := hd6.kp; have hka := Kp.ka HK.out hkb (by repeat (with_reducible first | exact Kp.refl _ _ | refine Kp.alloc _ ?_ | refine Kp.drew ?_ | refine Kp.drewN _ ?_)); have hlS6 := HS.out.lt; (try (replace HO := Lib.hid (Own.kp3 hka hkb (by first | omega | (simp; omega)) (by first | omega | (simp; omega)) HO.out))); replace HK := Lib.hid (Kp.trans HK.out (Kp.trans hka hkb)); have hsz6 := hkb.size_; have hsy6 := hka.size_; (try simp only [World.size_alloc, World.size_drew, World.heap_drewN, World.size_setCell] at hsz6 hsy6); replace HS := Lib.hid hd6.src; clear hka hkb hd6 hlS6; have hlS6 := HS.out.lt
        have hlO6 := (World.ownsRow.lt HO.out g rfl).2
        go_wp2_with (first | (refine wpList_store_own 2 _ _ _ x6 HO.out rfl rfl rfl rfl (by kernel_rfl) (by (try simp only [List.length_set]); omega) ?_; intro wS hOS hkb; replace HO := Lib.hid hOS; replace HS := Lib.hid (Src.kpg hkb (by omega) HS.out); replace HK := Lib.hid (Kp.own hkb (by omega) HK.out); have hsS := hkb.size_; clear hkb hOS))
        go_ret
        exact HFin.out _ _ (by simp) HO.out HS.out HK.out
      by_cases h5 : x4 = 1
      · go_wp2
        go_ret
        exact HCt.out _ _ (by simp) HO.out HS.out HK.out
      by_cases h6 : x4 = 2
      · have hI := HO.out.ints
        obtain ⟨a0, q0⟩ : ∃ a, w4.cell? ⟨g, 0, none⟩ = some (.int .i64 a) := ⟨_, hI.cell 0 (by (try simp only [List.length_set]); omega)⟩
        obtain ⟨a1, q1⟩ : ∃ a, w4.cell? ⟨g, 1, none⟩ = some (.int .i64 a) := ⟨_, hI.cell 1 (by (try simp only [List.length_set]); omega)⟩
        obtain ⟨a2, q2⟩ : ∃ a, w4.cell? ⟨g, 2, none⟩ = some (.int .i64 a) := ⟨_, hI.cell 2 (by (try simp only [List.length_set]); omega)⟩
        obtain ⟨a6, q6⟩ : ∃ a, w4.cell? ⟨g, 6, none⟩ = some (.int .i64 a) := ⟨_, hI.cell 6 (by (try simp only [List.length_set]); omega)⟩
        obtain ⟨a7, q7⟩ : ∃ a, w4.cell? ⟨g, 7, none⟩ = some (.int .i64 a) := ⟨_, hI.cell 7 (by (try simp only [List.length_set]); omega)⟩
        obtain ⟨a8, q8⟩ : ∃ a, w4.cell? ⟨g, 8, none⟩ = some (.int .i64 a) := ⟨_, hI.cell 8 (by (try simp only [List.length_set]); omega)⟩
        clear hI
        have hg4 : g < w4.heap.size := (World.ownsRow.lt HO.out g rfl).2
        go_wp2
        go_region_held3 (fun w' => w'.cell? ⟨g, 0, none⟩ = some (.int .i64 a0) ∧ w'.cell? ⟨g, 1, none⟩ = some (.int .i64 a1) ∧ w'.cell? ⟨g, 2, none⟩ = some (.int .i64 a2) ∧ w'.cell? ⟨g, 6, none⟩ = some (.int .i64 a6) ∧ w'.cell? ⟨g, 7, none⟩ = some (.int .i64 a7) ∧ w'.cell? ⟨g, 8, none⟩ = some (.int .i64 a8)) (simp [go_sem, *]) (fail)
        go_wp2
        go_ret
        exact ⟨[a0, a1, a2, a0, a1, a2, a6, a7, a8], _, 9, rfl, by simp, Own.of_blk (zs := [a0, a1, a2, a0, a1, a2, a6, a7, a8]) (Blk.new _ _ _) (by have := HK.out.size_; simp; omega) (by unfold maxLen; simp), Src.alloc _ HS.out.drew, Kp.alloc _ HK.out.drew⟩
      by_cases h7 : x4 = 3
      · go_wp2_with fail
        go_at_call 72; refine (l01Pick_c X A zs _ _ 2 _ _ (by repeat (with_reducible first | exact HS.out | refine Src.alloc _ ?_ | refine Src.drew ?_ | refine Src.drewN _ ?_ | (refine Src.far _ ?_ ?_; (have := HS.out.lt; first | omega | (simp; omega))) | (refine Src.setRow _ ?_ ?_; (have := HS.out.lt; first | omega | (simp; omega))))) (by repeat (first | exact Blk.new _ _ _ | refine Blk.alloc _ ?_)) (by rfl) (by omega) (by omega) (by simp [isI]) (Nat.ne_of_gt (by have := HS.out.lt; first | omega | (simp; omega)))).mono ?_; rintro e w5 ⟨x5, i5, hi5, hp5, rfl, hd5⟩; have HP5 := Lib.hid hp5; clear hp5; have hkb := hd5.kp; have hka := Kp.ka HK.out hkb (by repeat (with_reducible first | exact Kp.refl _ _ | refine Kp.alloc _ ?_ | refine Kp.drew ?_ | refine Kp.drewN _ ?_)); have hlS5 := HS.out.lt; (try (replace HO := Lib.hid (Own.kp3 hka hkb (by first | omega | (simp; omega)) (by first | omega | (simp; omega)) HO.out))); replace HK := Lib.hid (Kp.trans HK.out (Kp.trans hka hkb)); have hsz5 := hkb.size_; have hsy5 := hka.size_; (try simp only [World.size_alloc, World.size_drew, World.heap_drewN, World.size_setCell] at hsz5 hsy5); replace HS := Lib.hid hd5.src; clear hka hkb hd5 hlS5; have hlS5 := HS.out.lt
        go_wp2
        go_ret
        exact ⟨[3, 0, 0, 0, 3, 0, 0, 0, x5], _, 9, rfl, by simp, Own.of_blk (zs := [3, 0, 0, 0, 3, 0, 0, 0, x5]) (Blk.new _ _ _) (by have := HK.out.size_; (try simp); omega) (by unfold maxLen; simp), Src.alloc _ HS.out, Kp.alloc _ HK.out⟩
      go_wp2
      go_ret
      exact HFin.out _ _ (by simp) HO.out HS.out HK.out
    · go_wp2_with fail
      go_at_call 73; refine (l01Next_c X A zs _ (by omega) _ (by repeat (with_reducible first | exact HS.out | refine Src.alloc _ ?_ | refine Src.drew ?_ | refine Src.drewN _ ?_ | (refine Src.far _ ?_ ?_; (have := HS.out.lt; first | omega | (simp; omega))) | (refine Src.setRow _ ?_ ?_; (have := HS.out.lt; first | omega | (simp; omega)))))).mono ?_; rintro e w4 ⟨x4, rfl, hx4, hy4, hd4⟩; (try rw [Int.max_eq_left (by omega)] at hy4); have hkb := hd4.kp; have hka := Kp.ka HK.out hkb (by repeat (with_reducible first | exact Kp.refl _ _ | refine Kp.alloc _ ?_ | refine Kp.drew ?_ | refine Kp.drewN _ ?_)); have hlS4 := HS.out.lt; (try (replace HO := Lib.hid (Own.kp3 hka hkb (by first | omega | (simp; omega)) (by first | omega | (simp; omega)) HO.out))); replace HK := Lib.hid (Kp.trans HK.out (Kp.trans hka hkb)); have hsz4 := hkb.size_; have hsy4 := hka.size_; (try simp only [World.size_alloc, World.size_drew, World.heap_drewN, World.size_setCell] at hsz4 hsy4); replace HS := Lib.hid hd4.src; clear hka hkb hd4 hlS4; have hlS4 := HS.out.lt
      by_cases h4 : x4 = 0
      · go_wp2_with fail
        go_at_call 73; refine (l01Next_c X A zs _ (by omega) _ (by repeat (with_reducible first | exact HS.out | refine Src.alloc _ ?_ | refine Src.drew ?_ | refine Src.drewN _ ?_ | (refine Src.far _ ?_ ?_; (have := HS.out.lt; first | omega | (simp; omega))) | (refine Src.setRow _ ?_ ?_; (have := HS.out.lt; first | omega | (simp; omega)))))).mono ?_; rintro e w5 ⟨x5, rfl, hx5, hy5, hd5⟩; (try rw [Int.max_eq_left (by omega)] at hy5); have hkb := hd5.kp; have hka := Kp.ka HK.out hkb (by repeat (with_reducible first | exact Kp.refl _ _ | refine Kp.alloc _ ?_ | refine Kp.drew ?_ | refine Kp.drewN _ ?_)); have hlS5 := HS.out.lt; (try (replace HO := Lib.hid (Own.kp3 hka hkb (by first | omega | (simp; omega)) (by first | omega | (simp; omega)) HO.out))); replace HK := Lib.hid (Kp.trans HK.out (Kp.trans hka hkb)); have hsz5 := hkb.size_; have hsy5 := hka.size_; (try simp only [World.size_alloc, World.size_drew, World.heap_drewN, World.size_setCell] at hsz5 hsy5); replace HS := Lib.hid hd5.src; clear hka hkb hd5 hlS5; have hlS5 := HS.out.lt
        obtain ⟨j, rfl⟩ : ∃ j : Nat, x5 = j := ⟨x5.toNat, by omega⟩
        have hj9 : j < m.length := by omega
        have hj9' : ¬ (m.length : Int) ≤ j := by omega
        go_wp2_with fail
        go_at_call 72; refine (l01Pick_c X A zs _ _ 2 _ _ (by repeat (with_reducible first | exact HS.out | refine Src.alloc _ ?_ | refine Src.drew ?_ | refine Src.drewN _ ?_ | (refine Src.far _ ?_ ?_; (have := HS.out.lt; first | omega | (simp; omega))) | (refine Src.setRow _ ?_ ?_; (have := HS.out.lt; first | omega | (simp; omega))))) (by repeat (first | exact Blk.new _ _ _ | refine Blk.alloc _ ?_)) (by rfl) (by omega) (by omega) (by simp [isI]) (Nat.ne_of_gt (by have := HS.out.lt; first | omega | (simp; omega)))).mono ?_; rintro e w6 ⟨x6, i6, hi6, hp6, rfl, hd6⟩; have HP6 := Lib.hid hp6; clear hp6; have hkb := hd6.kp; have hka := Kp.ka HK.out hkb (by repeat (with_reducible first | exact Kp.refl _ _ | refine Kp.alloc _ ?_ | refine Kp.drew ?_ | refine Kp.drewN _ ?_)); have hlS6 := HS.out.lt; (try (replace HO := Lib.hid (Own.kp3 hka hkb (by first | omega | (simp; omega)) (by first | omega | (simp; omega)) HO.out))); replace HK := Lib.hid (Kp.trans HK.out (Kp.trans hka hkb)); have hsz6 := hkb.size_; have hsy6 := hka.size_; (try simp only [World.size_alloc, World.size_drew, World.heap_drewN, World.size_setCell] at hsz6 hsy6); replace HS := Lib.hid hd6.src; clear hka hkb hd6 hlS6; have hlS6 := HS.out.lt
        have hlO6 := (World.ownsRow.lt HO.out g rfl).2
        go_wp2_with (first | (refine wpList_store_own 2 _ _ _ x6 HO.out rfl rfl rfl rfl (by kernel_rfl) (by (try simp only [List.length_set]); omega) ?_; intro wS hOS hkb; replace HO := Lib.hid hOS; replace HS := Lib.hid (Src.kpg hkb (by omega) HS.out); replace HK := Lib.hid (Kp.own hkb (by omega) HK.out); have hsS := hkb.size_; clear hkb hOS))
        go_ret
        exact HFin.out _ _ (by simp) HO.out HS.out HK.out
      by_cases h5 : x4 = 1
      · go_wp2
        go_ret
        exact HCt.out _ _ (by simp) HO.out HS.out HK.out
      by_cases h6 : x4 = 2
      · have hI := HO.out.ints
        obtain ⟨a0, q0⟩ : ∃ a, w4.cell? ⟨g, 0, none⟩ = some (.int .i64 a) := ⟨_, hI.cell 0 (by (try simp only [List.length_set]); omega)⟩
        obtain ⟨a1, q1⟩ : ∃ a, w4.cell? ⟨g, 1, none⟩ = some (.int .i64 a) := ⟨_, hI.cell 1 (by (try simp only [List.length_set]); omega)⟩
        obtain ⟨a2, q2⟩ : ∃ a, w4.cell? ⟨g, 2, none⟩ = some (.int .i64 a) := ⟨_, hI.cell 2 (by (try simp only [List.length_set]); omega)⟩
        obtain ⟨a6, q6⟩ : ∃ a, w4.cell? ⟨g, 6, none⟩ = some (.int .i64 a) := ⟨_, hI.cell 6 (by (try simp only [List.length_set]); omega)⟩
        obtain ⟨a7, q7⟩ : ∃ a, w4.cell? ⟨g, 7, none⟩ = some (.int .i64 a) := ⟨_, hI.cell 7 (by (try simp only [List.length_set]); omega)⟩
        obtain ⟨a8, q8⟩ : ∃ a, w4.cell? ⟨g, 8, none⟩ = some (.int .i64 a) := ⟨_, hI.cell 8 (by (try simp only [List.length_set]); omega)⟩
        clear hI
        have hg4 : g < w4.heap.size := (World.ownsRow.lt HO.out g rfl).2
        go_wp2
        go_region_held3 (fun w' => w'.cell? ⟨g, 0, none⟩ = some (.int .i64 a0) ∧ w'.cell? ⟨g, 1, none⟩ = some (.int .i64 a1) ∧ w'.cell? ⟨g, 2, none⟩ = some (.int .i64 a2) ∧ w'.cell? ⟨g, 6, none⟩ = some (.int .i64 a6) ∧ w'.cell? ⟨g, 7, none⟩ = some (.int .i64 a7) ∧ w'.cell? ⟨g, 8, none⟩ = some (.int .i64 a8)) (simp [go_sem, *]) (fail)
        go_wp2
        go_ret
        exact ⟨[a0, a1, a2, a0, a1, a2, a6, a7, a8], _, 9, rfl, by simp, Own.of_blk (zs := [a0, a1, a2, a0, a1, a2, a6, a7, a8]) (Blk.new _ _ _) (by have := HK.out.size_; simp; omega) (by unfold maxLen; simp), Src.alloc _ HS.out.drew, Kp.alloc _ HK.out.drew⟩
      by_cases h7 : x4 = 3
      · go_wp2_with fail
        go_at_call 72; refine (l01Pick_c X A zs _ _ 2 _ _ (by repeat (with_reducible first | exact HS.out | refine Src.alloc _ ?_ | refine Src.drew ?_ | refine Src.drewN _ ?_ | (refine Src.far _ ?_ ?_; (have := HS.out.lt; first | omega | (simp; omega))) | (refine Src.setRow _ ?_ ?_; (have := HS.out.lt; first | omega | (simp; omega))))) (by repeat (first | exact Blk.new _ _ _ | refine Blk.alloc _ ?_)) (by rfl) (by omega) (by omega) (by simp [isI]) (Nat.ne_of_gt (by have := HS.out.lt; first | omega | (simp; omega)))).mono ?_; rintro e w5 ⟨x5, i5, hi5, hp5, rfl, hd5⟩; have HP5 := Lib.hid hp5; clear hp5; have hkb := hd5.kp; have hka := Kp.ka HK.out hkb (by repeat (with_reducible first | exact Kp.refl _ _ | refine Kp.alloc _ ?_ | refine Kp.drew ?_ | refine Kp.drewN _ ?_)); have hlS5 := HS.out.lt; (try (replace HO := Lib.hid (Own.kp3 hka hkb (by first | omega | (simp; omega)) (by first | omega | (simp; omega)) HO.out))); replace HK := Lib.hid (Kp.trans HK.out (Kp.trans hka hkb)); have hsz5 := hkb.size_; have hsy5 := hka.size_; (try simp only [World.size_alloc, World.size_drew, World.heap_drewN, World.size_setCell] at hsz5 hsy5); replace HS := Lib.hid hd5.src; clear hka hkb hd5 hlS5; have hlS5 := HS.out.lt
        go_wp2
        go_ret
        exact ⟨[3, 0, 0, 0, 3, 0, 0, 0, x5], _, 9, rfl, by simp, Own.of_blk (zs := [3, 0, 0, 0, 3, 0, 0, 0, x5]) (Blk.new _ _ _) (by have := HK.out.size_; (try simp); omega) (by unfold maxLen; simp), Src.alloc _ HS.out, Kp.alloc _ HK.out⟩
      go_wp2
      go_ret
      exact HFin.out _ _ (by simp) HO.out HS.out HK.out
/-- A call that draws a rational point. -/
def DrR (X : Nat) (A : Option Addr) (zs : List Int) (w : World) (e : Ending) (w' : World) : Prop := ∃ x y z : Int, e = .returned (.agg #[.int .i64 x, .int .i64 y, .int .i64 z]) ∧ Dr X A zs w w'
set_option maxRecDepth 20000 in
set_option maxHeartbeats 2000000 in
theorem l25DrawPoint_c (X : Nat) (A : Option Addr) (zs : List Int) (w : World) (hS : Src w X A zs) :
    Calls Try.prog 89 #[.pointer (some ⟨X, 0, none⟩)] w (DrR X A zs w) := by
  have hlX := hS.lt
  have HS := Lib.hid (Src.alloc (.cells #[.int .i64 0, .int .i64 0, .int .i64 0] 45) hS)
  have HK := Lib.hid (Kp.alloc (.cells #[.int .i64 0, .int .i64 0, .int .i64 0] 45) (Kp.refl X w))
  have HR := Lib.hid (Blk.new w 45 #[.int .i64 0, .int .i64 0, .int .i64 0])
  clear hS
  go_enter Try.func89, Try.ntmps89
  go_wp2_with fail
  go_at_call 73; refine (l01Next_c X A zs _ (by omega) _ (by repeat (with_reducible first | exact HS.out | refine Src.alloc _ ?_ | refine Src.drew ?_ | refine Src.drewN _ ?_ | (refine Src.far _ ?_ ?_; (have := HS.out.lt; first | omega | (simp; omega))) | (refine Src.setRow _ ?_ ?_; (have := HS.out.lt; first | omega | (simp; omega)))))).mono ?_; rintro e w1 ⟨x1, rfl, hx1, hy1, hd1⟩; (try rw [Int.max_eq_left (by omega)] at hy1); have hkb := hd1.kp; have hka := Kp.ka HK.out hkb (by repeat (with_reducible first | exact Kp.refl _ _ | refine Kp.alloc _ ?_ | refine Kp.drew ?_ | refine Kp.drewN _ ?_)); have hlS1 := HS.out.lt; (try (replace HR := Lib.hid (Blk.kp2 hka hkb (by first | omega | (simp; omega)) (by first | omega | (simp; omega)) HR.out))); replace HK := Lib.hid (Kp.trans HK.out (Kp.trans hka hkb)); have hsz1 := hkb.size_; have hsy1 := hka.size_; (try simp only [World.size_alloc, World.size_drew, World.heap_drewN, World.size_setCell] at hsz1 hsy1); replace HS := Lib.hid hd1.src; clear hka hkb hd1 hlS1; have hlS1 := HS.out.lt
  go_wp2_with fail
  go_at_call 73; refine (l01Next_c X A zs _ (by omega) _ (by repeat (with_reducible first | exact HS.out | refine Src.alloc _ ?_ | refine Src.drew ?_ | refine Src.drewN _ ?_ | (refine Src.far _ ?_ ?_; (have := HS.out.lt; first | omega | (simp; omega))) | (refine Src.setRow _ ?_ ?_; (have := HS.out.lt; first | omega | (simp; omega)))))).mono ?_; rintro e w2 ⟨x2, rfl, hx2, hy2, hd2⟩; (try rw [Int.max_eq_left (by omega)] at hy2); have hkb := hd2.kp; have hka := Kp.ka HK.out hkb (by repeat (with_reducible first | exact Kp.refl _ _ | refine Kp.alloc _ ?_ | refine Kp.drew ?_ | refine Kp.drewN _ ?_)); have hlS2 := HS.out.lt; (try (replace HR := Lib.hid (Blk.kp2 hka hkb (by first | omega | (simp; omega)) (by first | omega | (simp; omega)) HR.out))); replace HK := Lib.hid (Kp.trans HK.out (Kp.trans hka hkb)); have hsz2 := hkb.size_; have hsy2 := hka.size_; (try simp only [World.size_alloc, World.size_drew, World.heap_drewN, World.size_setCell] at hsz2 hsy2); replace HS := Lib.hid hd2.src; clear hka hkb hd2 hlS2; have hlS2 := HS.out.lt
  go_wp2_with fail
  go_at_call 73; refine (l01Next_c X A zs _ (by omega) _ (by repeat (with_reducible first | exact HS.out | refine Src.alloc _ ?_ | refine Src.drew ?_ | refine Src.drewN _ ?_ | (refine Src.far _ ?_ ?_; (have := HS.out.lt; first | omega | (simp; omega))) | (refine Src.setRow _ ?_ ?_; (have := HS.out.lt; first | omega | (simp; omega)))))).mono ?_; rintro e w3 ⟨x3, rfl, hx3, hy3, hd3⟩; (try rw [Int.max_eq_left (by omega)] at hy3); have hkb := hd3.kp; have hka := Kp.ka HK.out hkb (by repeat (with_reducible first | exact Kp.refl _ _ | refine Kp.alloc _ ?_ | refine Kp.drew ?_ | refine Kp.drewN _ ?_)); have hlS3 := HS.out.lt; (try (replace HR := Lib.hid (Blk.kp2 hka hkb (by first | omega | (simp; omega)) (by first | omega | (simp; omega)) HR.out))); replace HK := Lib.hid (Kp.trans HK.out (Kp.trans hka hkb)); have hsz3 := hkb.size_; have hsy3 := hka.size_; (try simp only [World.size_alloc, World.size_drew, World.heap_drewN, World.size_setCell] at hsz3 hsy3); replace HS := Lib.hid hd3.src; clear hka hkb hd3 hlS3; have hlS3 := HS.out.lt
  go_wp2_with fail
  go_at_call 40; refine (MakeRational_S _ _ _ _).mono ?_; rintro e w4 ⟨rfl, hb4⟩; replace HR := Lib.hid (Blk.step hb4 HR.out); replace HS := Lib.hid (Src.step hb4 HS.out); replace HK := Lib.hid (Kp.below hb4 HK.out); have hsz4 := hb4.size; (try simp only [World.size_alloc] at hsz4); clear hb4; have hlS4 := HS.out.lt
  generalize mkV _ _ _ _ = px
  generalize mkV _ _ _ _ = py
  generalize mkV _ _ _ _ = pz
  generalize mkC _ _ _ = pc
  have HP := Lib.hid (Blk.new w4 45 #[.int .i64 px, .int .i64 py, .int .i64 pz])
  replace HR := Lib.hid (Blk.alloc (.cells #[.int .i64 px, .int .i64 py, .int .i64 pz] 45) HR.out)
  replace HS := Lib.hid (Src.alloc (.cells #[.int .i64 px, .int .i64 py, .int .i64 pz] 45) HS.out)
  replace HK := Lib.hid (Kp.alloc (.cells #[.int .i64 px, .int .i64 py, .int .i64 pz] 45) HK.out)
  go_wp2_with fail
  go_at_call 73; refine (l01Next_c X A zs _ (by omega) _ (by repeat (with_reducible first | exact HS.out | refine Src.alloc _ ?_ | refine Src.drew ?_ | refine Src.drewN _ ?_ | (refine Src.far _ ?_ ?_; (have := HS.out.lt; first | omega | (simp; omega))) | (refine Src.setRow _ ?_ ?_; (have := HS.out.lt; first | omega | (simp; omega)))))).mono ?_; rintro e w5 ⟨x5, rfl, hx5, hy5, hd5⟩; (try rw [Int.max_eq_left (by omega)] at hy5); have hkb := hd5.kp; have hka := Kp.ka HK.out hkb (by repeat (with_reducible first | exact Kp.refl _ _ | refine Kp.alloc _ ?_ | refine Kp.drew ?_ | refine Kp.drewN _ ?_)); have hlS5 := HS.out.lt; (try (replace HR := Lib.hid (Blk.kp2 hka hkb (by first | omega | (simp; omega)) (by first | omega | (simp; omega)) HR.out))); (try (replace HP := Lib.hid (Blk.kp2 hka hkb (by first | omega | (simp; omega)) (by first | omega | (simp; omega)) HP.out))); replace HK := Lib.hid (Kp.trans HK.out (Kp.trans hka hkb)); have hsz5 := hkb.size_; have hsy5 := hka.size_; (try simp only [World.size_alloc, World.size_drew, World.heap_drewN, World.size_setCell] at hsz5 hsy5); replace HS := Lib.hid hd5.src; clear hka hkb hd5 hlS5; have hlS5 := HS.out.lt
  by_cases h0 : x5 = 0
  · go_wp2_with fail
    go_at_call 72; refine (l01Pick_c X A zs _ _ 2 _ _ (by repeat (with_reducible first | exact HS.out | refine Src.alloc _ ?_ | refine Src.drew ?_ | refine Src.drewN _ ?_ | (refine Src.far _ ?_ ?_; (have := HS.out.lt; first | omega | (simp; omega))) | (refine Src.setRow _ ?_ ?_; (have := HS.out.lt; first | omega | (simp; omega))))) (by repeat (first | exact Blk.new _ _ _ | refine Blk.alloc _ ?_)) (by rfl) (by omega) (by omega) (by simp [isI]) (Nat.ne_of_gt (by have := HS.out.lt; first | omega | (simp; omega)))).mono ?_; rintro e w6 ⟨x6, i6, hi6, hp6, rfl, hd6⟩; have HP6 := Lib.hid hp6; clear hp6; have hkb := hd6.kp; have hka := Kp.ka HK.out hkb (by repeat (with_reducible first | exact Kp.refl _ _ | refine Kp.alloc _ ?_ | refine Kp.drew ?_ | refine Kp.drewN _ ?_)); have hlS6 := HS.out.lt; (try (replace HR := Lib.hid (Blk.kp2 hka hkb (by first | omega | (simp; omega)) (by first | omega | (simp; omega)) HR.out))); (try (replace HP := Lib.hid (Blk.kp2 hka hkb (by first | omega | (simp; omega)) (by first | omega | (simp; omega)) HP.out))); replace HK := Lib.hid (Kp.trans HK.out (Kp.trans hka hkb)); have hsz6 := hkb.size_; have hsy6 := hka.size_; (try simp only [World.size_alloc, World.size_drew, World.heap_drewN, World.size_setCell] at hsz6 hsy6); replace HS := Lib.hid hd6.src; clear hka hkb hd6 hlS6; have hlS6 := HS.out.lt
    go_wp2_with (first | (refine wpList_store_part 2 _ _ _ 2 _ _ (Blk.kp (Kp.ka0 HK.out (by repeat (with_reducible first | exact Kp.refl _ _ | refine Kp.alloc _ ?_ | refine Kp.drew ?_ | refine Kp.drewN _ ?_))) (by first | omega | (simp; omega)) HP.out) rfl rfl rfl rfl (by rfl) (by kernel_rfl) (by simp [go_sem, Value.cells, Value.oneCell']) (by simp [go_sem, Value.cells]) ?_; intro wS hBS hkb; simp [go_sem, Value.cells, setL] at hBS; have hka := Kp.ka HK.out hkb (by repeat (with_reducible first | exact Kp.refl _ _ | refine Kp.alloc _ ?_ | refine Kp.drew ?_ | refine Kp.drewN _ ?_)); have hlSo := HS.out.lt; (try (replace HR := Lib.hid (Blk.kp2 hka hkb (by first | omega | (simp; omega)) (by first | omega | (simp; omega)) HR.out))); (try replace HS := Lib.hid (Src.kpg2 HS.out (by repeat (with_reducible first | exact Below.refl _ _ | refine Bel.alloc ?_ _ | refine Below.drew ?_ | refine Bel.drewN ?_ _)) hkb (by first | omega | (simp; omega)))); replace HP := Lib.hid hBS; replace HK := Lib.hid (Kp.own hkb (by first | omega | (simp; omega)) (Kp.trans HK.out hka)); have hszS := hkb.size_; have hsyS := hka.size_; (try simp only [World.size_alloc, World.size_drew, World.heap_drewN, World.size_setCell] at hszS hsyS); clear hBS hka hkb hlSo; have hlSS := HS.out.lt) | (refine wpList_load_blkG 45 _ _ (Blk.kp (Kp.ka0 HK.out (by repeat (with_reducible first | exact Kp.refl _ _ | refine Kp.alloc _ ?_ | refine Kp.drew ?_ | refine Kp.drewN _ ?_))) (by first | omega | (simp; omega)) HP.out) Try.underlying45 (by kernel_rfl) rfl rfl (by rfl) ?_) | (refine wpList_store_part 45 _ _ _ 0 _ _ (Blk.kp (Kp.ka0 HK.out (by repeat (with_reducible first | exact Kp.refl _ _ | refine Kp.alloc _ ?_ | refine Kp.drew ?_ | refine Kp.drewN _ ?_))) (by first | omega | (simp; omega)) HR.out) rfl rfl rfl rfl (by rfl) (by kernel_rfl) (by simp [go_sem, Value.cells, Value.oneCell']) (by simp [go_sem, Value.cells]) ?_; intro wS hBS hkb; simp [go_sem, Value.cells, setL] at hBS; have hka := Kp.ka HK.out hkb (by repeat (with_reducible first | exact Kp.refl _ _ | refine Kp.alloc _ ?_ | refine Kp.drew ?_ | refine Kp.drewN _ ?_)); have hlSo := HS.out.lt; (try (replace HP := Lib.hid (Blk.kp2 hka hkb (by first | omega | (simp; omega)) (by first | omega | (simp; omega)) HP.out))); (try replace HS := Lib.hid (Src.kpg2 HS.out (by repeat (with_reducible first | exact Below.refl _ _ | refine Bel.alloc ?_ _ | refine Below.drew ?_ | refine Bel.drewN ?_ _)) hkb (by first | omega | (simp; omega)))); replace HR := Lib.hid hBS; replace HK := Lib.hid (Kp.own hkb (by first | omega | (simp; omega)) (Kp.trans HK.out hka)); have hszS := hkb.size_; have hsyS := hka.size_; (try simp only [World.size_alloc, World.size_drew, World.heap_drewN, World.size_setCell] at hszS hsyS); clear hBS hka hkb hlSo; have hlSS := HS.out.lt))
    exact bodyPost_ret (results_blk HR.out Try.underlying45 (by kernel_rfl) rfl rfl) rfl ⟨_, _, _, rfl, HS.out, HK.out⟩
  by_cases h1 : x5 = 1
  · go_wp2_with fail
    go_at_call 72; refine (l01Pick_c X A zs _ _ 2 _ _ (by repeat (with_reducible first | exact HS.out | refine Src.alloc _ ?_ | refine Src.drew ?_ | refine Src.drewN _ ?_ | (refine Src.far _ ?_ ?_; (have := HS.out.lt; first | omega | (simp; omega))) | (refine Src.setRow _ ?_ ?_; (have := HS.out.lt; first | omega | (simp; omega))))) (by repeat (first | exact Blk.new _ _ _ | refine Blk.alloc _ ?_)) (by rfl) (by omega) (by omega) (by simp [isI]) (Nat.ne_of_gt (by have := HS.out.lt; first | omega | (simp; omega)))).mono ?_; rintro e w6 ⟨x6, i6, hi6, hp6, rfl, hd6⟩; have HP6 := Lib.hid hp6; clear hp6; have hkb := hd6.kp; have hka := Kp.ka HK.out hkb (by repeat (with_reducible first | exact Kp.refl _ _ | refine Kp.alloc _ ?_ | refine Kp.drew ?_ | refine Kp.drewN _ ?_)); have hlS6 := HS.out.lt; (try (replace HR := Lib.hid (Blk.kp2 hka hkb (by first | omega | (simp; omega)) (by first | omega | (simp; omega)) HR.out))); (try (replace HP := Lib.hid (Blk.kp2 hka hkb (by first | omega | (simp; omega)) (by first | omega | (simp; omega)) HP.out))); replace HK := Lib.hid (Kp.trans HK.out (Kp.trans hka hkb)); have hsz6 := hkb.size_; have hsy6 := hka.size_; (try simp only [World.size_alloc, World.size_drew, World.heap_drewN, World.size_setCell] at hsz6 hsy6); replace HS := Lib.hid hd6.src; clear hka hkb hd6 hlS6; have hlS6 := HS.out.lt
    go_wp2_with (first | (refine wpList_store_part 2 _ _ _ 0 _ _ (Blk.kp (Kp.ka0 HK.out (by repeat (with_reducible first | exact Kp.refl _ _ | refine Kp.alloc _ ?_ | refine Kp.drew ?_ | refine Kp.drewN _ ?_))) (by first | omega | (simp; omega)) HP.out) rfl rfl rfl rfl (by rfl) (by kernel_rfl) (by simp [go_sem, Value.cells, Value.oneCell']) (by simp [go_sem, Value.cells]) ?_; intro wS hBS hkb; simp [go_sem, Value.cells, setL] at hBS; have hka := Kp.ka HK.out hkb (by repeat (with_reducible first | exact Kp.refl _ _ | refine Kp.alloc _ ?_ | refine Kp.drew ?_ | refine Kp.drewN _ ?_)); have hlSo := HS.out.lt; (try (replace HR := Lib.hid (Blk.kp2 hka hkb (by first | omega | (simp; omega)) (by first | omega | (simp; omega)) HR.out))); (try replace HS := Lib.hid (Src.kpg2 HS.out (by repeat (with_reducible first | exact Below.refl _ _ | refine Bel.alloc ?_ _ | refine Below.drew ?_ | refine Bel.drewN ?_ _)) hkb (by first | omega | (simp; omega)))); replace HP := Lib.hid hBS; replace HK := Lib.hid (Kp.own hkb (by first | omega | (simp; omega)) (Kp.trans HK.out hka)); have hszS := hkb.size_; have hsyS := hka.size_; (try simp only [World.size_alloc, World.size_drew, World.heap_drewN, World.size_setCell] at hszS hsyS); clear hBS hka hkb hlSo; have hlSS := HS.out.lt) | (refine wpList_load_blkG 45 _ _ (Blk.kp (Kp.ka0 HK.out (by repeat (with_reducible first | exact Kp.refl _ _ | refine Kp.alloc _ ?_ | refine Kp.drew ?_ | refine Kp.drewN _ ?_))) (by first | omega | (simp; omega)) HP.out) Try.underlying45 (by kernel_rfl) rfl rfl (by rfl) ?_) | (refine wpList_store_part 45 _ _ _ 0 _ _ (Blk.kp (Kp.ka0 HK.out (by repeat (with_reducible first | exact Kp.refl _ _ | refine Kp.alloc _ ?_ | refine Kp.drew ?_ | refine Kp.drewN _ ?_))) (by first | omega | (simp; omega)) HR.out) rfl rfl rfl rfl (by rfl) (by kernel_rfl) (by simp [go_sem, Value.cells, Value.oneCell']) (by simp [go_sem, Value.cells]) ?_; intro wS hBS hkb; simp [go_sem, Value.cells, setL] at hBS; have hka := Kp.ka HK.out hkb (by repeat (with_reducible first | exact Kp.refl _ _ | refine Kp.alloc _ ?_ | refine Kp.drew ?_ | refine Kp.drewN _ ?_)); have hlSo := HS.out.lt; (try (replace HP := Lib.hid (Blk.kp2 hka hkb (by first | omega | (simp; omega)) (by first | omega | (simp; omega)) HP.out))); (try replace HS := Lib.hid (Src.kpg2 HS.out (by repeat (with_reducible first | exact Below.refl _ _ | refine Bel.alloc ?_ _ | refine Below.drew ?_ | refine Bel.drewN ?_ _)) hkb (by first | omega | (simp; omega)))); replace HR := Lib.hid hBS; replace HK := Lib.hid (Kp.own hkb (by first | omega | (simp; omega)) (Kp.trans HK.out hka)); have hszS := hkb.size_; have hsyS := hka.size_; (try simp only [World.size_alloc, World.size_drew, World.heap_drewN, World.size_setCell] at hszS hsyS); clear hBS hka hkb hlSo; have hlSS := HS.out.lt))
    exact bodyPost_ret (results_blk HR.out Try.underlying45 (by kernel_rfl) rfl rfl) rfl ⟨_, _, _, rfl, HS.out, HK.out⟩
  go_wp2_with (first | (refine wpList_load_blkG 45 _ _ (Blk.kp (Kp.ka0 HK.out (by repeat (with_reducible first | exact Kp.refl _ _ | refine Kp.alloc _ ?_ | refine Kp.drew ?_ | refine Kp.drewN _ ?_))) (by first | omega | (simp; omega)) HP.out) Try.underlying45 (by kernel_rfl) rfl rfl (by rfl) ?_) | (refine wpList_store_part 45 _ _ _ 0 _ _ (Blk.kp (Kp.ka0 HK.out (by repeat (with_reducible first | exact Kp.refl _ _ | refine Kp.alloc _ ?_ | refine Kp.drew ?_ | refine Kp.drewN _ ?_))) (by first | omega | (simp; omega)) HR.out) rfl rfl rfl rfl (by rfl) (by kernel_rfl) (by simp [go_sem, Value.cells, Value.oneCell']) (by simp [go_sem, Value.cells]) ?_; intro wS hBS hkb; simp [go_sem, Value.cells, setL] at hBS; have hka := Kp.ka HK.out hkb (by repeat (with_reducible first | exact Kp.refl _ _ | refine Kp.alloc _ ?_ | refine Kp.drew ?_ | refine Kp.drewN _ ?_)); have hlSo := HS.out.lt; (try (replace HP := Lib.hid (Blk.kp2 hka hkb (by first | omega | (simp; omega)) (by first | omega | (simp; omega)) HP.out))); (try replace HS := Lib.hid (Src.kpg2 HS.out (by repeat (with_reducible first | exact Below.refl _ _ | refine Bel.alloc ?_ _ | refine Below.drew ?_ | refine Bel.drewN ?_ _)) hkb (by first | omega | (simp; omega)))); replace HR := Lib.hid hBS; replace HK := Lib.hid (Kp.own hkb (by first | omega | (simp; omega)) (Kp.trans HK.out hka)); have hszS := hkb.size_; have hsyS := hka.size_; (try simp only [World.size_alloc, World.size_drew, World.heap_drewN, World.size_setCell] at hszS hsyS); clear hBS hka hkb hlSo; have hlSS := HS.out.lt))
  exact bodyPost_ret (results_blk HR.out Try.underlying45 (by kernel_rfl) rfl rfl) rfl ⟨_, _, _, rfl, HS.out, HK.out⟩
/-- A list and a rational point are drawn. -/
def PpQ (w : World) (e : Ending) (w' : World) : Prop := ∃ (m : List Int) (g c : Nat) (x y z : Int), e = .returned (.tuple #[.slice (some ⟨g, 0, none⟩) m.length c, .agg #[.int .i64 x, .int .i64 y, .int .i64 z]]) ∧ m.length ≤ 9 ∧ Own w' w.heap.size 2 (.slice (some ⟨g, 0, none⟩) m.length c) m ∧ Below w.heap.size w w'
set_option maxHeartbeats 2000000 in
theorem DrawProjectPoint_c (A : Option Addr) (c : Nat) (zs : List Int) (hz : zs.length ≤ 4096) (w : World) (hA : Byts w A zs) :
    Calls Try.prog 23 #[.slice A zs.length c] w (PpQ w) := by
  have HA := Lib.hid hA
  have HR := Lib.hid (Blk.new w 45 #[.int .i64 0, .int .i64 0, .int .i64 0])
  clear hA
  go_enter Try.func23, Try.ntmps23
  go_wp2_with fail
  go_at_call 70; refine (l01From_c A c zs hz _ (Byts.step (by repeat (with_reducible first | exact Below.refl _ _ | refine Bel.alloc ?_ _)) HA.out)).mono ?_; rintro e w1 ⟨X, rfl, hX, hS, hb1⟩; replace HR := Lib.hid (Blk.step hb1 HR.out); have HS := Lib.hid hS; have HK := Lib.hid (Kp.below (X := X) (a := w) hb1 (by repeat (with_reducible first | exact Kp.refl _ _ | refine Kp.alloc _ ?_ | refine Kp.drew ?_ | refine Kp.drewN _ ?_))); have hlX := hS.lt; have hsz1 := hb1.size; (try simp only [World.size_alloc] at hX hsz1); clear hS hb1
  go_wp2_with fail
  go_at_call 88; refine (l25Draw_c X A zs _ (by repeat (with_reducible first | exact HS.out | refine Src.alloc _ ?_ | refine Src.drew ?_ | refine Src.drewN _ ?_ | (refine Src.far _ ?_ ?_; (have := HS.out.lt; first | omega | (simp; omega))) | (refine Src.setRow _ ?_ ?_; (have := HS.out.lt; first | omega | (simp; omega)))))).mono ?_; rintro e w2 ⟨m2, g2, c2, rfl, hn2, hO2, hd2⟩; obtain ⟨hq2, hr2⟩ := World.ownsRow.lt hO2 g2 rfl; (try simp only [World.size_alloc] at hq2); have HO2 := Lib.hid hO2; clear hO2; have hkb := hd2.kp; have hka := Kp.ka HK.out hkb (by repeat (with_reducible first | exact Kp.refl _ _ | refine Kp.alloc _ ?_ | refine Kp.drew ?_ | refine Kp.drewN _ ?_)); have hlS2 := HS.out.lt; (try (replace HR := Lib.hid (Blk.kp2 hka hkb (by first | omega | (simp; omega)) (by first | omega | (simp; omega)) HR.out))); replace HK := Lib.hid (Kp.trans HK.out (Kp.trans hka hkb)); have hsz2 := hkb.size_; have hsy2 := hka.size_; (try simp only [World.size_alloc, World.size_drew, World.heap_drewN, World.size_setCell] at hsz2 hsy2); replace HS := Lib.hid hd2.src; clear hka hkb hd2 hlS2; have hlS2 := HS.out.lt
  go_wp2_with fail
  go_at_call 89; refine (l25DrawPoint_c X A zs _ (by repeat (with_reducible first | exact HS.out | refine Src.alloc _ ?_ | refine Src.drew ?_ | refine Src.drewN _ ?_ | (refine Src.far _ ?_ ?_; (have := HS.out.lt; first | omega | (simp; omega))) | (refine Src.setRow _ ?_ ?_; (have := HS.out.lt; first | omega | (simp; omega)))))).mono ?_; rintro e w3 ⟨x3, y3, z3, rfl, hd3⟩; have hkb := hd3.kp; have hka := Kp.ka HK.out hkb (by repeat (with_reducible first | exact Kp.refl _ _ | refine Kp.alloc _ ?_ | refine Kp.drew ?_ | refine Kp.drewN _ ?_)); have hlS3 := HS.out.lt; (try (replace HR := Lib.hid (Blk.kp2 hka hkb (by first | omega | (simp; omega)) (by first | omega | (simp; omega)) HR.out))); (try (replace HO2 := Lib.hid (Own.kp3 hka hkb (by first | omega | (simp; omega)) (by first | omega | (simp; omega)) HO2.out))); replace HK := Lib.hid (Kp.trans HK.out (Kp.trans hka hkb)); have hsz3 := hkb.size_; have hsy3 := hka.size_; (try simp only [World.size_alloc, World.size_drew, World.heap_drewN, World.size_setCell] at hsz3 hsy3); replace HS := Lib.hid hd3.src; clear hka hkb hd3 hlS3; have hlS3 := HS.out.lt
  go_wp2_with (first | (refine wpList_store_part 45 _ _ _ 0 _ _ (Blk.kp (Kp.ka0 HK.out (by repeat (with_reducible first | exact Kp.refl _ _ | refine Kp.alloc _ ?_ | refine Kp.drew ?_ | refine Kp.drewN _ ?_))) (by first | omega | (simp; omega)) HR.out) rfl rfl rfl rfl (by rfl) (by kernel_rfl) (by simp [go_sem, Value.cells, Value.oneCell']) (by simp [go_sem, Value.cells]) ?_; intro wS hBS hkb; simp [go_sem, Value.cells, setL] at hBS; have hka := Kp.ka HK.out hkb (by repeat (with_reducible first | exact Kp.refl _ _ | refine Kp.alloc _ ?_ | refine Kp.drew ?_ | refine Kp.drewN _ ?_)); have hlSo := HS.out.lt; (try (replace HO2 := Lib.hid (Own.kp3 hka hkb (by first | omega | (simp; omega)) (by first | omega | (simp; omega)) HO2.out))); (try replace HS := Lib.hid (Src.kpg2 HS.out (by repeat (with_reducible first | exact Below.refl _ _ | refine Bel.alloc ?_ _ | refine Below.drew ?_ | refine Bel.drewN ?_ _)) hkb (by first | omega | (simp; omega)))); replace HR := Lib.hid hBS; replace HK := Lib.hid (Kp.own hkb (by first | omega | (simp; omega)) (Kp.trans HK.out hka)); have hszS := hkb.size_; have hsyS := hka.size_; (try simp only [World.size_alloc, World.size_drew, World.heap_drewN, World.size_setCell] at hszS hsyS); clear hBS hka hkb hlSo; have hlSS := HS.out.lt))
  exact bodyPost_ret (results_2 rfl (resF_tmp _ rfl) (resF_cell HR.out Try.underlying45 (by kernel_rfl) rfl)) rfl ⟨m2, g2, c2, x3, y3, z3, rfl, hn2, Own.ge_mono HO2.out (by omega), Kp.toBel HK.out (by omega)⟩
/-- A list is drawn. -/
def MQ (w : World) (e : Ending) (w' : World) : Prop := ∃ (m : List Int) (g c : Nat), e = .returned (.slice (some ⟨g, 0, none⟩) m.length c) ∧ m.length ≤ 9 ∧ Own w' w.heap.size 2 (.slice (some ⟨g, 0, none⟩) m.length c) m ∧ Below w.heap.size w w'
set_option maxHeartbeats 2000000 in
theorem DrawFixedByAll_c (A : Option Addr) (c : Nat) (zs : List Int) (hz : zs.length ≤ 4096) (w : World) (hA : Byts w A zs) :
    Calls Try.prog 44 #[.slice A zs.length c] w (MQ w) := by
  have HA := Lib.hid hA
  clear hA
  go_enter Try.func44, Try.ntmps44
  go_wp2_with fail
  go_at_call 70; refine (l01From_c A c zs hz _ (Byts.step (by repeat (with_reducible first | exact Below.refl _ _ | refine Bel.alloc ?_ _)) HA.out)).mono ?_; rintro e w1 ⟨X, rfl, hX, hS, hb1⟩; have HS := Lib.hid hS; have HK := Lib.hid (Kp.below (X := X) (a := w) hb1 (by repeat (with_reducible first | exact Kp.refl _ _ | refine Kp.alloc _ ?_ | refine Kp.drew ?_ | refine Kp.drewN _ ?_))); have hlX := hS.lt; have hsz1 := hb1.size; (try simp only [World.size_alloc] at hX hsz1); clear hS hb1
  go_wp2_with fail
  go_at_call 88; refine (l25Draw_c X A zs _ (by repeat (with_reducible first | exact HS.out | refine Src.alloc _ ?_ | refine Src.drew ?_ | refine Src.drewN _ ?_ | (refine Src.far _ ?_ ?_; (have := HS.out.lt; first | omega | (simp; omega))) | (refine Src.setRow _ ?_ ?_; (have := HS.out.lt; first | omega | (simp; omega)))))).mono ?_; rintro e w2 ⟨m2, g2, c2, rfl, hn2, hO2, hd2⟩; obtain ⟨hq2, hr2⟩ := World.ownsRow.lt hO2 g2 rfl; (try simp only [World.size_alloc] at hq2); have HO2 := Lib.hid hO2; clear hO2; have hkb := hd2.kp; have hka := Kp.ka HK.out hkb (by repeat (with_reducible first | exact Kp.refl _ _ | refine Kp.alloc _ ?_ | refine Kp.drew ?_ | refine Kp.drewN _ ?_)); have hlS2 := HS.out.lt; replace HK := Lib.hid (Kp.trans HK.out (Kp.trans hka hkb)); have hsz2 := hkb.size_; have hsy2 := hka.size_; (try simp only [World.size_alloc, World.size_drew, World.heap_drewN, World.size_setCell] at hsz2 hsy2); replace HS := Lib.hid hd2.src; clear hka hkb hd2 hlS2; have hlS2 := HS.out.lt
  go_wp2
  go_ret
  exact ⟨m2, g2, c2, rfl, hn2, Own.ge_mono HO2.out (by omega), Kp.toBel HK.out (by omega)⟩
set_option maxHeartbeats 2000000 in
theorem DrawRoundPoint_c (A : Option Addr) (c : Nat) (zs : List Int) (hz : zs.length ≤ 4096) (w : World) (hA : Byts w A zs) :
    Calls Try.prog 41 #[.slice A zs.length c] w fun e w' => ∃ x y z : Int, e = .returned (.agg #[.int .i64 x, .int .i64 y, .int .i64 z]) ∧ Below w.heap.size w w' := by
  have HA := Lib.hid hA
  have HR := Lib.hid (Blk.new w 45 #[.int .i64 0, .int .i64 0, .int .i64 0])
  clear hA
  go_enter Try.func41, Try.ntmps41
  go_wp2_with fail
  go_at_call 70; refine (l01From_c A c zs hz _ (Byts.step (by repeat (with_reducible first | exact Below.refl _ _ | refine Bel.alloc ?_ _)) HA.out)).mono ?_; rintro e w1 ⟨X, rfl, hX, hS, hb1⟩; replace HR := Lib.hid (Blk.step hb1 HR.out); have HS := Lib.hid hS; have HK := Lib.hid (Kp.below (X := X) (a := w) hb1 (by repeat (with_reducible first | exact Kp.refl _ _ | refine Kp.alloc _ ?_ | refine Kp.drew ?_ | refine Kp.drewN _ ?_))); have hlX := hS.lt; have hsz1 := hb1.size; (try simp only [World.size_alloc] at hX hsz1); clear hS hb1
  go_wp2_with fail
  go_at_call 89; refine (l25DrawPoint_c X A zs _ (by repeat (with_reducible first | exact HS.out | refine Src.alloc _ ?_ | refine Src.drew ?_ | refine Src.drewN _ ?_ | (refine Src.far _ ?_ ?_; (have := HS.out.lt; first | omega | (simp; omega))) | (refine Src.setRow _ ?_ ?_; (have := HS.out.lt; first | omega | (simp; omega)))))).mono ?_; rintro e w2 ⟨x2, y2, z2, rfl, hd2⟩; have hkb := hd2.kp; have hka := Kp.ka HK.out hkb (by repeat (with_reducible first | exact Kp.refl _ _ | refine Kp.alloc _ ?_ | refine Kp.drew ?_ | refine Kp.drewN _ ?_)); have hlS2 := HS.out.lt; (try (replace HR := Lib.hid (Blk.kp2 hka hkb (by first | omega | (simp; omega)) (by first | omega | (simp; omega)) HR.out))); replace HK := Lib.hid (Kp.trans HK.out (Kp.trans hka hkb)); have hsz2 := hkb.size_; have hsy2 := hka.size_; (try simp only [World.size_alloc, World.size_drew, World.heap_drewN, World.size_setCell] at hsz2 hsy2); replace HS := Lib.hid hd2.src; clear hka hkb hd2 hlS2; have hlS2 := HS.out.lt
  go_wp2_with (first | (refine wpList_store_part 45 _ _ _ 0 _ _ (Blk.kp (Kp.ka0 HK.out (by repeat (with_reducible first | exact Kp.refl _ _ | refine Kp.alloc _ ?_ | refine Kp.drew ?_ | refine Kp.drewN _ ?_))) (by first | omega | (simp; omega)) HR.out) rfl rfl rfl rfl (by rfl) (by kernel_rfl) (by simp [go_sem, Value.cells, Value.oneCell']) (by simp [go_sem, Value.cells]) ?_; intro wS hBS hkb; simp [go_sem, Value.cells, setL] at hBS; have hka := Kp.ka HK.out hkb (by repeat (with_reducible first | exact Kp.refl _ _ | refine Kp.alloc _ ?_ | refine Kp.drew ?_ | refine Kp.drewN _ ?_)); have hlSo := HS.out.lt; (try replace HS := Lib.hid (Src.kpg2 HS.out (by repeat (with_reducible first | exact Below.refl _ _ | refine Bel.alloc ?_ _ | refine Below.drew ?_ | refine Bel.drewN ?_ _)) hkb (by first | omega | (simp; omega)))); replace HR := Lib.hid hBS; replace HK := Lib.hid (Kp.own hkb (by first | omega | (simp; omega)) (Kp.trans HK.out hka)); have hszS := hkb.size_; have hsyS := hka.size_; (try simp only [World.size_alloc, World.size_drew, World.heap_drewN, World.size_setCell] at hszS hsyS); clear hBS hka hkb hlSo; have hlSS := HS.out.lt))
  exact bodyPost_ret (results_blk HR.out Try.underlying45 (by kernel_rfl) rfl rfl) rfl ⟨_, _, _, rfl, Kp.toBel HK.out (by omega)⟩
set_option maxHeartbeats 2000000 in
theorem DrawMakeRational_c (A : Option Addr) (c : Nat) (zs : List Int) (hz : zs.length ≤ 4096) (w : World) (hA : Byts w A zs) :
    Calls Try.prog 38 #[.slice A zs.length c] w fun e w' => ∃ x y z : Int, e = .returned (.tuple #[.int .i64 x, .int .i64 y, .int .i64 z]) ∧ Below w.heap.size w w' := by
  have HA := Lib.hid hA
  clear hA
  go_enter Try.func38, Try.ntmps38
  go_wp2_with fail
  go_at_call 70; refine (l01From_c A c zs hz _ (Byts.step (by repeat (with_reducible first | exact Below.refl _ _ | refine Bel.alloc ?_ _)) HA.out)).mono ?_; rintro e w1 ⟨X, rfl, hX, hS, hb1⟩; have HS := Lib.hid hS; have HK := Lib.hid (Kp.below (X := X) (a := w) hb1 (by repeat (with_reducible first | exact Kp.refl _ _ | refine Kp.alloc _ ?_ | refine Kp.drew ?_ | refine Kp.drewN _ ?_))); have hlX := hS.lt; have hsz1 := hb1.size; (try simp only [World.size_alloc] at hX hsz1); clear hS hb1
  go_wp2_with fail
  go_at_call 73; refine (l01Next_c X A zs _ (by omega) _ (by repeat (with_reducible first | exact HS.out | refine Src.alloc _ ?_ | refine Src.drew ?_ | refine Src.drewN _ ?_ | (refine Src.far _ ?_ ?_; (have := HS.out.lt; first | omega | (simp; omega))) | (refine Src.setRow _ ?_ ?_; (have := HS.out.lt; first | omega | (simp; omega)))))).mono ?_; rintro e w2 ⟨x2, rfl, hx2, hy2, hd2⟩; (try rw [Int.max_eq_left (by omega)] at hy2); have hkb := hd2.kp; have hka := Kp.ka HK.out hkb (by repeat (with_reducible first | exact Kp.refl _ _ | refine Kp.alloc _ ?_ | refine Kp.drew ?_ | refine Kp.drewN _ ?_)); have hlS2 := HS.out.lt; replace HK := Lib.hid (Kp.trans HK.out (Kp.trans hka hkb)); have hsz2 := hkb.size_; have hsy2 := hka.size_; (try simp only [World.size_alloc, World.size_drew, World.heap_drewN, World.size_setCell] at hsz2 hsy2); replace HS := Lib.hid hd2.src; clear hka hkb hd2 hlS2; have hlS2 := HS.out.lt
  go_wp2_with fail
  go_at_call 104; refine (l01DrawValue_c X A zs _ (by repeat (with_reducible first | exact HS.out | refine Src.alloc _ ?_ | refine Src.drew ?_ | refine Src.drewN _ ?_ | (refine Src.far _ ?_ ?_; (have := HS.out.lt; first | omega | (simp; omega))) | (refine Src.setRow _ ?_ ?_; (have := HS.out.lt; first | omega | (simp; omega)))))).mono ?_; rintro e w3 ⟨x3, rfl, hd3⟩; have hkb := hd3.kp; have hka := Kp.ka HK.out hkb (by repeat (with_reducible first | exact Kp.refl _ _ | refine Kp.alloc _ ?_ | refine Kp.drew ?_ | refine Kp.drewN _ ?_)); have hlS3 := HS.out.lt; replace HK := Lib.hid (Kp.trans HK.out (Kp.trans hka hkb)); have hsz3 := hkb.size_; have hsy3 := hka.size_; (try simp only [World.size_alloc, World.size_drew, World.heap_drewN, World.size_setCell] at hsz3 hsy3); replace HS := Lib.hid hd3.src; clear hka hkb hd3 hlS3; have hlS3 := HS.out.lt
  go_wp2_with fail
  go_at_call 72; refine (l01Pick_c X A zs _ _ 2 _ _ (by repeat (with_reducible first | exact HS.out | refine Src.alloc _ ?_ | refine Src.drew ?_ | refine Src.drewN _ ?_ | (refine Src.far _ ?_ ?_; (have := HS.out.lt; first | omega | (simp; omega))) | (refine Src.setRow _ ?_ ?_; (have := HS.out.lt; first | omega | (simp; omega))))) (by repeat (first | exact Blk.new _ _ _ | refine Blk.alloc _ ?_)) (by rfl) (by omega) (by omega) (by simp [isI]) (Nat.ne_of_gt (by have := HS.out.lt; first | omega | (simp; omega)))).mono ?_; rintro e w4 ⟨x4, i4, hi4, hp4, rfl, hd4⟩; have HP4 := Lib.hid hp4; clear hp4; have hkb := hd4.kp; have hka := Kp.ka HK.out hkb (by repeat (with_reducible first | exact Kp.refl _ _ | refine Kp.alloc _ ?_ | refine Kp.drew ?_ | refine Kp.drewN _ ?_)); have hlS4 := HS.out.lt; replace HK := Lib.hid (Kp.trans HK.out (Kp.trans hka hkb)); have hsz4 := hkb.size_; have hsy4 := hka.size_; (try simp only [World.size_alloc, World.size_drew, World.heap_drewN, World.size_setCell] at hsz4 hsy4); replace HS := Lib.hid hd4.src; clear hka hkb hd4 hlS4; have hlS4 := HS.out.lt
  go_wp2_with fail
  go_at_call 73; refine (l01Next_c X A zs _ (by omega) _ (by repeat (with_reducible first | exact HS.out | refine Src.alloc _ ?_ | refine Src.drew ?_ | refine Src.drewN _ ?_ | (refine Src.far _ ?_ ?_; (have := HS.out.lt; first | omega | (simp; omega))) | (refine Src.setRow _ ?_ ?_; (have := HS.out.lt; first | omega | (simp; omega)))))).mono ?_; rintro e w5 ⟨x5, rfl, hx5, hy5, hd5⟩; (try rw [Int.max_eq_left (by omega)] at hy5); have hkb := hd5.kp; have hka := Kp.ka HK.out hkb (by repeat (with_reducible first | exact Kp.refl _ _ | refine Kp.alloc _ ?_ | refine Kp.drew ?_ | refine Kp.drewN _ ?_)); have hlS5 := HS.out.lt; replace HK := Lib.hid (Kp.trans HK.out (Kp.trans hka hkb)); have hsz5 := hkb.size_; have hsy5 := hka.size_; (try simp only [World.size_alloc, World.size_drew, World.heap_drewN, World.size_setCell] at hsz5 hsy5); replace HS := Lib.hid hd5.src; clear hka hkb hd5 hlS5; have hlS5 := HS.out.lt
  go_wp2_with fail
  go_at_call 73; refine (l01Next_c X A zs _ (by omega) _ (by repeat (with_reducible first | exact HS.out | refine Src.alloc _ ?_ | refine Src.drew ?_ | refine Src.drewN _ ?_ | (refine Src.far _ ?_ ?_; (have := HS.out.lt; first | omega | (simp; omega))) | (refine Src.setRow _ ?_ ?_; (have := HS.out.lt; first | omega | (simp; omega)))))).mono ?_; rintro e w6 ⟨x6, rfl, hx6, hy6, hd6⟩; (try rw [Int.max_eq_left (by omega)] at hy6); have hkb := hd6.kp; have hka := Kp.ka HK.out hkb (by repeat (with_reducible first | exact Kp.refl _ _ | refine Kp.alloc _ ?_ | refine Kp.drew ?_ | refine Kp.drewN _ ?_)); have hlS6 := HS.out.lt; replace HK := Lib.hid (Kp.trans HK.out (Kp.trans hka hkb)); have hsz6 := hkb.size_; have hsy6 := hka.size_; (try simp only [World.size_alloc, World.size_drew, World.heap_drewN, World.size_setCell] at hsz6 hsy6); replace HS := Lib.hid hd6.src; clear hka hkb hd6 hlS6; have hlS6 := HS.out.lt
  go_wp2_with fail
  go_at_call 104; refine (l01DrawValue_c X A zs _ (by repeat (with_reducible first | exact HS.out | refine Src.alloc _ ?_ | refine Src.drew ?_ | refine Src.drewN _ ?_ | (refine Src.far _ ?_ ?_; (have := HS.out.lt; first | omega | (simp; omega))) | (refine Src.setRow _ ?_ ?_; (have := HS.out.lt; first | omega | (simp; omega)))))).mono ?_; rintro e w7 ⟨x7, rfl, hd7⟩; have hkb := hd7.kp; have hka := Kp.ka HK.out hkb (by repeat (with_reducible first | exact Kp.refl _ _ | refine Kp.alloc _ ?_ | refine Kp.drew ?_ | refine Kp.drewN _ ?_)); have hlS7 := HS.out.lt; replace HK := Lib.hid (Kp.trans HK.out (Kp.trans hka hkb)); have hsz7 := hkb.size_; have hsy7 := hka.size_; (try simp only [World.size_alloc, World.size_drew, World.heap_drewN, World.size_setCell] at hsz7 hsy7); replace HS := Lib.hid hd7.src; clear hka hkb hd7 hlS7; have hlS7 := HS.out.lt
  go_wp2_with fail
  go_at_call 72; refine (l01Pick_c X A zs _ _ 2 _ _ (by repeat (with_reducible first | exact HS.out | refine Src.alloc _ ?_ | refine Src.drew ?_ | refine Src.drewN _ ?_ | (refine Src.far _ ?_ ?_; (have := HS.out.lt; first | omega | (simp; omega))) | (refine Src.setRow _ ?_ ?_; (have := HS.out.lt; first | omega | (simp; omega))))) (by repeat (first | exact Blk.new _ _ _ | refine Blk.alloc _ ?_)) (by rfl) (by omega) (by omega) (by simp [isI]) (Nat.ne_of_gt (by have := HS.out.lt; first | omega | (simp; omega)))).mono ?_; rintro e w8 ⟨x8, i8, hi8, hp8, rfl, hd8⟩; have HP8 := Lib.hid hp8; clear hp8; have hkb := hd8.kp; have hka := Kp.ka HK.out hkb (by repeat (with_reducible first | exact Kp.refl _ _ | refine Kp.alloc _ ?_ | refine Kp.drew ?_ | refine Kp.drewN _ ?_)); have hlS8 := HS.out.lt; replace HK := Lib.hid (Kp.trans HK.out (Kp.trans hka hkb)); have hsz8 := hkb.size_; have hsy8 := hka.size_; (try simp only [World.size_alloc, World.size_drew, World.heap_drewN, World.size_setCell] at hsz8 hsy8); replace HS := Lib.hid hd8.src; clear hka hkb hd8 hlS8; have hlS8 := HS.out.lt
  go_wp2
  go_ret3
  exact ⟨_, _, _, rfl, Kp.toBel HK.out (by omega)⟩
end Go.Proofs.Ythfphjbaglgacaa
