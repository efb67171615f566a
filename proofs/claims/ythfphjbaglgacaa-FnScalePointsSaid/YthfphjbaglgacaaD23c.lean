/- Draws: a chart, a scale and figures. Conditions: as stated at each contract. -/
import Derived.Test.YthfphjbaglgacaaProg
import Derived.Test.YthfphjbaglgacaaBase
import Derived.Test.YthfphjbaglgacaaRw
import Derived.Test.YthfphjbaglgacaaRg
import Derived.Test.YthfphjbaglgacaaL01
import Derived.Test.YthfphjbaglgacaaCp
import Derived.Test.YthfphjbaglgacaaCm
import Derived.Test.YthfphjbaglgacaaL18
import Derived.Test.YthfphjbaglgacaaD00
import Derived.Test.YthfphjbaglgacaaD01
import Derived.Test.YthfphjbaglgacaaD02
import Derived.Test.YthfphjbaglgacaaD03
import Derived.Test.YthfphjbaglgacaaD18
import Derived.Test.YthfphjbaglgacaaD23
import Derived.WalkKit
import Derived.WalkSpells
import Derived.WalkLawsBesides
import Derived.Lib.Hide
import Derived.Deep.QuietTactic
import Derived.BigQuiet
import Derived.Deep.Draws
import Derived.Deep.RegionHeld3
import Derived.Deep.Cut
import Derived.Deep.AppendLies
namespace Go.Proofs.Ythfphjbaglgacaa
open Go.RowKit
set_option linter.unusedVariables false
set_option linter.unusedSimpArgs false
/-- An append of one pair, which tells where the new row lies. -/
theorem wpList_app1PX {P : Program} {w : World} {ops : Array Oper} {rest : List Oper} {o : Oper} {a : Act} {Q : Exit → Act → World → Prop} (hgd : o.guard = none) (s x : Operand) (t : TypeId)
    (ho : o.op = .call { callee := .builtin .append, args := #[s, x], argTypes := #[t, t] })
    (B : Nat) (e : TypeId) (z : Value) (ht : P.underlying t = some (.slice e)) (hi : (P.info? e).map (fun i => (i.zero, i.size, i.bytes)) = some (some z, 2, 16)) (hzs : z.cells.size = 2)
    (v : Value) (zs : List (Int × Int)) (p : Int × Int) (hs : a.eval s = v) (hown : OwnP w B e v zs) (g : Nat)
    (hx : a.eval x = .slice (some ⟨g, 0, none⟩) 1 1) (hc0 : w.cell? ⟨g, 0, none⟩ = some (.int .i64 p.1)) (hc1 : w.cell? ⟨g, 1, none⟩ = some (.int .i64 p.2)) (hl : zs.length ≤ 1000000) (hbase : B ≤ w.heap.size)
    (h : ∀ g' cap w', OwnP w' B e (.slice (some ⟨g', 0, none⟩) (zs.length + 1) cap) (zs ++ [p]) → w.grownBy w' v.ownBlock → (v.ownBlock = some g' ∨ g' = w.heap.size) → wpList P ops Q rest (a.put o.dst (.slice (some ⟨g', 0, none⟩) (zs.length + 1) cap)) w') : wpList P ops Q (o :: rest) a w := by
  obtain ⟨i0, hi0, hz0, hz1, hz2⟩ := info_parts hi
  refine wpList_append_lies w hgd s x t ho B e i0 _ 2 16 ht hi0 hz0 hz1 hz2 hzs (by omega) v zs.length _ hs hown ⟨g, 0, none⟩ 1 1 [.int .i64 p.1, .int .i64 p.2] hx rfl ?_ (by simp [Value.oneCell']) (by omega) (by unfold maxLen; omega) (by omega) hbase _ rfl ?_
  · intro j u hu
    match j with
    | 0 => simp at hu; subst hu; simpa [Addr.add] using hc0
    | 1 => simp at hu; subst hu; simpa [Addr.add] using hc1
    | j + 2 => simp at hu
  · intro g' cap w' h1 h2 h3 _
    refine h g' cap w' ?_ h2 h3
    unfold OwnP
    rw [List.length_append, pcells_app]
    exact h1
def lenOf : Value → Nat | .slice _ n _ => n | _ => 0
/-- A chart, a scale and figures are drawn. -/
def SpQ (w : World) (e : Ending) (w' : World) : Prop := ∃ (C : Ch) (g c : Nat) (sc : Int) (ps : List (Int × Int)) (gb cb : Nat), e = .returned (.tuple #[.agg #[.int .i64 C.dg, .int .i64 C.tn, .string C.nm, .slice (some ⟨g, 0, none⟩) C.zs.length c, .int .i64 C.wd, .int .i64 C.lf, .int .i64 C.rt], .int .i64 sc, .slice (some ⟨gb, 0, none⟩) ps.length cb]) ∧ C.zs.length ≤ 27 ∧ C.nm.size ≤ 27 ∧ ps.length ≤ 101 ∧ Own w' w.heap.size 2 (.slice (some ⟨g, 0, none⟩) C.zs.length c) C.zs ∧ OwnP w' w.heap.size 71 (.slice (some ⟨gb, 0, none⟩) ps.length cb) ps ∧ Below w.heap.size w w'
set_option maxRecDepth 20000 in
set_option maxHeartbeats 4000000 in
theorem DrawScalePoints_c (A : Option Addr) (c : Nat) (zs : List Int) (hz : zs.length ≤ 4096) (w : World) (hA : Byts w A zs) :
    Calls Try.prog 54 #[.slice A zs.length c] w (SpQ w) := by
  have HA := Lib.hid hA
  have HR1 := Lib.hid (Blk.new w 75 #[.int .i64 0, .int .i64 0, .string ⟨#[]⟩, .slice none 0 0, .int .i64 0, .int .i64 0, .int .i64 0])
  clear hA
  go_enter Try.func54, Try.ntmps54
  go_wp2_with fail
  go_at_call 70; refine (l01From_c A c zs hz _ (Byts.step (by repeat (with_reducible first | exact Below.refl _ _ | refine Bel.alloc ?_ _)) HA.out)).mono ?_; rintro e w1 ⟨X, rfl, hX, hS, hb1⟩; replace HR1 := Lib.hid (Blk.step hb1 HR1.out); have HS := Lib.hid hS; have HK := Lib.hid (Kp.below (X := X) (a := w) hb1 (by repeat (with_reducible first | exact Kp.refl _ _ | refine Kp.alloc _ ?_ | refine Kp.drew ?_ | refine Kp.drewN _ ?_))); have hlX := hS.lt; have hsz1 := hb1.size; (try simp only [World.size_alloc] at hX hsz1); clear hS hb1
  go_wp2_with fail
  go_at_call 126; refine (l23Draw_c X A zs _ (by repeat (with_reducible first | exact HS.out | refine Src.alloc _ ?_ | refine Src.drew ?_ | refine Src.drewN _ ?_ | (refine Src.far _ ?_ ?_; (have := HS.out.lt; first | omega | (simp; omega))) | (refine Src.setRow _ ?_ ?_; (have := HS.out.lt; first | omega | (simp; omega)))))).mono ?_; rintro e w2 ⟨C2, g2, c2, rfl, ho2, hn2, hm2, hO2, hd2⟩; obtain ⟨hq2, hr2⟩ := World.ownsRow.lt hO2 g2 rfl; (try simp only [World.size_alloc] at hq2); have HO2 := Lib.hid hO2; clear hO2 ho2; have hkb := hd2.kp; have hka := Kp.ka HK.out hkb (by repeat (with_reducible first | exact Kp.refl _ _ | refine Kp.alloc _ ?_ | refine Kp.drew ?_ | refine Kp.drewN _ ?_)); have hlS2 := HS.out.lt; (try (replace HR1 := Lib.hid (Blk.kp2 hka hkb (by first | omega | (simp; omega)) (by first | omega | (simp; omega)) HR1.out))); replace HK := Lib.hid (Kp.trans HK.out (Kp.trans hka hkb)); have hsz2 := hkb.size_; have hsy2 := hka.size_; (try simp only [World.size_alloc, World.size_drew, World.heap_drewN, World.size_setCell] at hsz2 hsy2); replace HS := Lib.hid hd2.src; clear hka hkb hd2 hlS2; have hlS2 := HS.out.lt
  have HF := Lib.hid (Blk.new w2 75 #[.int .i64 C2.dg, .int .i64 C2.tn, .string C2.nm, .slice (some ⟨g2, 0, none⟩) C2.zs.length c2, .int .i64 C2.wd, .int .i64 C2.lf, .int .i64 C2.rt])
  replace HR1 := Lib.hid (Blk.alloc (.cells #[.int .i64 C2.dg, .int .i64 C2.tn, .string C2.nm, .slice (some ⟨g2, 0, none⟩) C2.zs.length c2, .int .i64 C2.wd, .int .i64 C2.lf, .int .i64 C2.rt] 75) HR1.out)
  replace HO2 := Lib.hid (Own.alloc (.cells #[.int .i64 C2.dg, .int .i64 C2.tn, .string C2.nm, .slice (some ⟨g2, 0, none⟩) C2.zs.length c2, .int .i64 C2.wd, .int .i64 C2.lf, .int .i64 C2.rt] 75) HO2.out)
  replace HS := Lib.hid (Src.alloc (.cells #[.int .i64 C2.dg, .int .i64 C2.tn, .string C2.nm, .slice (some ⟨g2, 0, none⟩) C2.zs.length c2, .int .i64 C2.wd, .int .i64 C2.lf, .int .i64 C2.rt] 75) HS.out)
  replace HK := Lib.hid (Kp.alloc (.cells #[.int .i64 C2.dg, .int .i64 C2.tn, .string C2.nm, .slice (some ⟨g2, 0, none⟩) C2.zs.length c2, .int .i64 C2.wd, .int .i64 C2.lf, .int .i64 C2.rt] 75) HK.out)
  go_wp2_with fail
  go_at_call 127; refine (l23DrawScale_c X A zs _ (by repeat (with_reducible first | exact HS.out | refine Src.alloc _ ?_ | refine Src.drew ?_ | refine Src.drewN _ ?_ | (refine Src.far _ ?_ ?_; (have := HS.out.lt; first | omega | (simp; omega))) | (refine Src.setRow _ ?_ ?_; (have := HS.out.lt; first | omega | (simp; omega)))))).mono ?_; rintro e w3 ⟨x3, rfl, hd3⟩; have hkb := hd3.kp; have hka := Kp.ka HK.out hkb (by repeat (with_reducible first | exact Kp.refl _ _ | refine Kp.alloc _ ?_ | refine Kp.drew ?_ | refine Kp.drewN _ ?_)); have hlS3 := HS.out.lt; (try (replace HR1 := Lib.hid (Blk.kp2 hka hkb (by first | omega | (simp; omega)) (by first | omega | (simp; omega)) HR1.out))); (try (replace HF := Lib.hid (Blk.kp2 hka hkb (by first | omega | (simp; omega)) (by first | omega | (simp; omega)) HF.out))); (try (replace HO2 := Lib.hid (Own.kp3 hka hkb (by first | omega | (simp; omega)) (by first | omega | (simp; omega)) HO2.out))); replace HK := Lib.hid (Kp.trans HK.out (Kp.trans hka hkb)); have hsz3 := hkb.size_; have hsy3 := hka.size_; (try simp only [World.size_alloc, World.size_drew, World.heap_drewN, World.size_setCell] at hsz3 hsy3); replace HS := Lib.hid hd3.src; clear hka hkb hd3 hlS3; have hlS3 := HS.out.lt
  have HP : Hid (OwnP (w3.alloc (.cells #[] 71)) w3.heap.size 71 (.slice (some ⟨w3.heap.size, 0, none⟩) 0 0) []) := World.ownsRow_made w3 #[] 0 (Nat.le_refl _) (by unfold maxLen; omega) (by simp)
  replace HR1 := Lib.hid (Blk.alloc (.cells #[] 71) HR1.out)
  replace HF := Lib.hid (Blk.alloc (.cells #[] 71) HF.out)
  replace HO2 := Lib.hid (Own.alloc (.cells #[] 71) HO2.out)
  replace HS := Lib.hid (Src.alloc (.cells #[] 71) HS.out)
  replace HK := Lib.hid (Kp.alloc (.cells #[] 71) HK.out)
  go_wp2_with fail
  go_at_call 73; refine (l01Next_c X A zs _ (by omega) _ (by repeat (with_reducible first | exact HS.out | refine Src.alloc _ ?_ | refine Src.drew ?_ | refine Src.drewN _ ?_ | (refine Src.far _ ?_ ?_; (have := HS.out.lt; first | omega | (simp; omega))) | (refine Src.setRow _ ?_ ?_; (have := HS.out.lt; first | omega | (simp; omega)))))).mono ?_; rintro e w4 ⟨x4, rfl, hx4, hy4, hd4⟩; (try rw [Int.max_eq_left (by omega)] at hy4); have hkb := hd4.kp; have hka := Kp.ka HK.out hkb (by repeat (with_reducible first | exact Kp.refl _ _ | refine Kp.alloc _ ?_ | refine Kp.drew ?_ | refine Kp.drewN _ ?_)); have hlS4 := HS.out.lt; (try (replace HR1 := Lib.hid (Blk.kp2 hka hkb (by first | omega | (simp; omega)) (by first | omega | (simp; omega)) HR1.out))); (try (replace HF := Lib.hid (Blk.kp2 hka hkb (by first | omega | (simp; omega)) (by first | omega | (simp; omega)) HF.out))); (try (replace HO2 := Lib.hid (Own.kp3 hka hkb (by first | omega | (simp; omega)) (by first | omega | (simp; omega)) HO2.out))); (try (replace HP := Lib.hid (OwnP.kp3 hka hkb (by first | omega | (simp; omega)) (by first | omega | (simp; omega)) HP.out))); replace HK := Lib.hid (Kp.trans HK.out (Kp.trans hka hkb)); have hsz4 := hkb.size_; have hsy4 := hka.size_; (try simp only [World.size_alloc, World.size_drew, World.heap_drewN, World.size_setCell] at hsz4 hsy4); replace HS := Lib.hid hd4.src; clear hka hkb hd4 hlS4; have hlS4 := HS.out.lt
  obtain ⟨k0, rfl⟩ : ∃ k : Nat, x4 = k := ⟨x4.toNat, by omega⟩
  have hk0 : k0 ≤ 5 := by omega
  have hf2 := HF.out.lt
  go_wp2
  go_loopw [8, 9] (fun l n wr => ∃ (k : Nat) (ps : List (Int × Int)) (gb cb : Nat), ps.length + k ≤ 5 ∧ n = .int .i64 k ∧ l = .slice (some ⟨gb, 0, none⟩) ps.length cb ∧ w3.heap.size ≤ gb ∧ Hid (Src wr X A zs) ∧ Hid (Kp X w wr) ∧ Hid (Blk wr w.heap.size 75 #[.int .i64 0, .int .i64 0, .string ⟨#[]⟩, .slice none 0 0, .int .i64 0, .int .i64 0, .int .i64 0]) ∧ Hid (Blk wr w2.heap.size 75 #[.int .i64 C2.dg, .int .i64 C2.tn, .string C2.nm, .slice (some ⟨g2, 0, none⟩) C2.zs.length c2, .int .i64 C2.wd, .int .i64 C2.lf, .int .i64 C2.rt]) ∧ Hid (Own wr w1.heap.size 2 (.slice (some ⟨g2, 0, none⟩) C2.zs.length c2) C2.zs) ∧ Hid (OwnP wr w3.heap.size 71 (.slice (some ⟨gb, 0, none⟩) ps.length cb) ps)) (fun _ n _ => (intOf n).toNat)
  case atStart => exact ⟨k0, [], w3.heap.size, 0, by simpa using hk0, rfl, rfl, Nat.le_refl _, HS, HK, HR1, HF, HO2, HP⟩
  case round =>
    clear HS HK HR1 HF HO2 HP
    obtain ⟨k, ps, gb, cb, hk, rfl, rfl, hgb0, HS, HK, HR1, HF, HO2, HP⟩ := hrel
    have hlS := HS.out.lt
    have hlP := (World.ownsRow.lt HP.out gb rfl).2
    by_cases hk1 : 0 < k
    · have hk1' : (0 : Int) < k := by omega
      go_wp2_with fail
      go_at_call 128; refine (l02Draw_c X A zs _ (by repeat (with_reducible first | exact HS.out | refine Src.alloc _ ?_ | refine Src.drew ?_ | refine Src.drewN _ ?_ | (refine Src.far _ ?_ ?_; (have := HS.out.lt; first | omega | (simp; omega))) | (refine Src.setRow _ ?_ ?_; (have := HS.out.lt; first | omega | (simp; omega)))))).mono ?_; rintro e w5 ⟨d5, t5, rfl, ho5, hd5⟩; clear ho5; have hkb := hd5.kp; have hka := Kp.ka HK.out hkb (by repeat (with_reducible first | exact Kp.refl _ _ | refine Kp.alloc _ ?_ | refine Kp.drew ?_ | refine Kp.drewN _ ?_)); have hlS5 := HS.out.lt; (try (replace HR1 := Lib.hid (Blk.kp2 hka hkb (by first | omega | (simp; omega)) (by first | omega | (simp; omega)) HR1.out))); (try (replace HF := Lib.hid (Blk.kp2 hka hkb (by first | omega | (simp; omega)) (by first | omega | (simp; omega)) HF.out))); (try (replace HO2 := Lib.hid (Own.kp3 hka hkb (by first | omega | (simp; omega)) (by first | omega | (simp; omega)) HO2.out))); (try (replace HP := Lib.hid (OwnP.kp3 hka hkb (by first | omega | (simp; omega)) (by first | omega | (simp; omega)) HP.out))); replace HK := Lib.hid (Kp.trans HK.out (Kp.trans hka hkb)); have hsz5 := hkb.size_; have hsy5 := hka.size_; (try simp only [World.size_alloc, World.size_drew, World.heap_drewN, World.size_setCell] at hsz5 hsy5); replace HS := Lib.hid hd5.src; clear hka hkb hd5 hlS5; have hlS5 := HS.out.lt
      have hlP5 := (World.ownsRow.lt HP.out gb rfl).2
      go_wp2_with (first | (at_builtin; refine wpList_app1PX rfl _ _ 86 rfl (w3.heap.size) 71 (.agg #[.int .i64 0, .int .i64 0]) Try.underlying86 (by kernel_rfl) rfl _ ps (d5, t5) rfl (OwnP.alloc _ HP.out) w5.heap.size rfl (by simp [go_sem]) (by simp [go_sem]) (by omega) (by simp; omega) ?_; intro gb' cb' w9 hP9 hk9 hg9; have hkb : Kp gb _ w9 := hk9; have hka := Kp.ka HK.out hkb (Kp.alloc _ (Kp.refl _ _)); replace HR1 := Lib.hid (Blk.kp2 hka hkb (by omega) (by omega) HR1.out); replace HF := Lib.hid (Blk.kp2 hka hkb (by omega) (by omega) HF.out); replace HO2 := Lib.hid (Own.kp3 hka hkb (by omega) (by omega) HO2.out); replace HS := Lib.hid (Src.kpg2 HS.out (Bel.alloc (Below.refl _ _) _) hkb (by omega)); replace HK := Lib.hid (Kp.own hkb (by omega) (Kp.trans HK.out hka)); replace HP := Lib.hid hP9; have hgb := (World.ownsRow.lt hP9 gb' rfl); have hs9 := hkb.size_; simp only [World.size_alloc] at hs9; clear hka hkb hk9 hP9))
      go_roundw
      case rel => exact ⟨k - 1, ps ++ [(d5, t5)], gb', cb', by simp; omega, by first | go_num | (congr 1; omega), by simp, by omega, HS, HK, HR1, HF, HO2, Lib.hid (by rw [List.length_append]; exact HP.out)⟩
      case measure => simp [intOf]; omega
    obtain rfl : k = 0 := by omega
    go_wp2_with fail
    go_at_call 73; refine (l01Next_c X A zs _ (by omega) _ (by repeat (with_reducible first | exact HS.out | refine Src.alloc _ ?_ | refine Src.drew ?_ | refine Src.drewN _ ?_ | (refine Src.far _ ?_ ?_; (have := HS.out.lt; first | omega | (simp; omega))) | (refine Src.setRow _ ?_ ?_; (have := HS.out.lt; first | omega | (simp; omega)))))).mono ?_; rintro e w6 ⟨x6, rfl, hx6, hy6, hd6⟩; (try rw [Int.max_eq_left (by omega)] at hy6); have hkb := hd6.kp; have hka := Kp.ka HK.out hkb (by repeat (with_reducible first | exact Kp.refl _ _ | refine Kp.alloc _ ?_ | refine Kp.drew ?_ | refine Kp.drewN _ ?_)); have hlS6 := HS.out.lt; (try (replace HR1 := Lib.hid (Blk.kp2 hka hkb (by first | omega | (simp; omega)) (by first | omega | (simp; omega)) HR1.out))); (try (replace HF := Lib.hid (Blk.kp2 hka hkb (by first | omega | (simp; omega)) (by first | omega | (simp; omega)) HF.out))); (try (replace HO2 := Lib.hid (Own.kp3 hka hkb (by first | omega | (simp; omega)) (by first | omega | (simp; omega)) HO2.out))); (try (replace HP := Lib.hid (OwnP.kp3 hka hkb (by first | omega | (simp; omega)) (by first | omega | (simp; omega)) HP.out))); replace HK := Lib.hid (Kp.trans HK.out (Kp.trans hka hkb)); have hsz6 := hkb.size_; have hsy6 := hka.size_; (try simp only [World.size_alloc, World.size_drew, World.heap_drewN, World.size_setCell] at hsz6 hsy6); replace HS := Lib.hid hd6.src; clear hka hkb hd6 hlS6; have hlS6 := HS.out.lt
    have hlP6 := (World.ownsRow.lt HP.out gb rfl).2
    by_cases h6 : x6 = 0
    rotate_left
    · go_wp2_with (first | (refine wpList_load_blkG 75 _ _ (Blk.kp (Kp.ka0 HK.out (by repeat (with_reducible first | exact Kp.refl _ _ | refine Kp.alloc _ ?_ | refine Kp.drew ?_ | refine Kp.drewN _ ?_))) (by first | omega | (simp; omega)) HF.out) Try.underlying75 (by kernel_rfl) rfl rfl (by rfl) ?_) | (refine wpList_store_part 75 _ _ _ 0 _ _ (Blk.kp (Kp.ka0 HK.out (by repeat (with_reducible first | exact Kp.refl _ _ | refine Kp.alloc _ ?_ | refine Kp.drew ?_ | refine Kp.drewN _ ?_))) (by first | omega | (simp; omega)) HR1.out) rfl rfl rfl rfl (by rfl) (by kernel_rfl) (by simp [go_sem, Value.cells, Value.oneCell']) (by simp [go_sem, Value.cells]) ?_; intro wS hBS hkb; simp [go_sem, Value.cells, setL] at hBS; have hka := Kp.ka HK.out hkb (by repeat (with_reducible first | exact Kp.refl _ _ | refine Kp.alloc _ ?_ | refine Kp.drew ?_ | refine Kp.drewN _ ?_)); have hlSo := HS.out.lt; (try (replace HF := Lib.hid (Blk.kp2 hka hkb (by first | omega | (simp; omega)) (by first | omega | (simp; omega)) HF.out))); (try (replace HO2 := Lib.hid (Own.kp3 hka hkb (by first | omega | (simp; omega)) (by first | omega | (simp; omega)) HO2.out))); (try (replace HP := Lib.hid (OwnP.kp3 hka hkb (by first | omega | (simp; omega)) (by first | omega | (simp; omega)) HP.out))); (try replace HS := Lib.hid (Src.kpg2 HS.out (by repeat (with_reducible first | exact Below.refl _ _ | refine Bel.alloc ?_ _ | refine Below.drew ?_ | refine Bel.drewN ?_ _)) hkb (by first | omega | (simp; omega)))); replace HR1 := Lib.hid hBS; replace HK := Lib.hid (Kp.own hkb (by first | omega | (simp; omega)) (Kp.trans HK.out hka)); have hszS := hkb.size_; have hsyS := hka.size_; (try simp only [World.size_alloc, World.size_drew, World.heap_drewN, World.size_setCell] at hszS hsyS); clear hBS hka hkb hlSo; have hlSS := HS.out.lt))
      exact bodyPost_ret (results_3 rfl (resF_cell HR1.out Try.underlying75 (by kernel_rfl) rfl) (resF_tmp _ rfl) (resF_tmp _ rfl)) rfl ⟨C2, g2, c2, x3, ps, gb, cb, rfl, by omega, by omega, by omega, Own.ge_mono HO2.out (by omega), OwnP.ge_mono HP.out (by omega), Kp.toBel HK.out (by omega)⟩
    go_wp2_with fail
    go_at_call 129; refine (l02Valid_c X A zs _ (by repeat (with_reducible first | exact HS.out | refine Src.alloc _ ?_ | refine Src.drew ?_ | refine Src.drewN _ ?_ | (refine Src.far _ ?_ ?_; (have := HS.out.lt; first | omega | (simp; omega))) | (refine Src.setRow _ ?_ ?_; (have := HS.out.lt; first | omega | (simp; omega)))))).mono ?_; rintro e w7 ⟨d7, t7, rfl, ho7, hd7⟩; have HO7 := Lib.hid ho7; clear ho7; have hkb := hd7.kp; have hka := Kp.ka HK.out hkb (by repeat (with_reducible first | exact Kp.refl _ _ | refine Kp.alloc _ ?_ | refine Kp.drew ?_ | refine Kp.drewN _ ?_)); have hlS7 := HS.out.lt; (try (replace HR1 := Lib.hid (Blk.kp2 hka hkb (by first | omega | (simp; omega)) (by first | omega | (simp; omega)) HR1.out))); (try (replace HF := Lib.hid (Blk.kp2 hka hkb (by first | omega | (simp; omega)) (by first | omega | (simp; omega)) HF.out))); (try (replace HO2 := Lib.hid (Own.kp3 hka hkb (by first | omega | (simp; omega)) (by first | omega | (simp; omega)) HO2.out))); (try (replace HP := Lib.hid (OwnP.kp3 hka hkb (by first | omega | (simp; omega)) (by first | omega | (simp; omega)) HP.out))); replace HK := Lib.hid (Kp.trans HK.out (Kp.trans hka hkb)); have hsz7 := hkb.size_; have hsy7 := hka.size_; (try simp only [World.size_alloc, World.size_drew, World.heap_drewN, World.size_setCell] at hsz7 hsy7); replace HS := Lib.hid hd7.src; clear hka hkb hd7 hlS7; have hlS7 := HS.out.lt
    have hlP7 := (World.ownsRow.lt HP.out gb rfl).2
    have HG := Lib.hid (Blk.new w7 71 #[.int .i64 d7, .int .i64 t7])
    replace HR1 := Lib.hid (Blk.alloc (.cells #[.int .i64 d7, .int .i64 t7] 71) HR1.out)
    replace HF := Lib.hid (Blk.alloc (.cells #[.int .i64 d7, .int .i64 t7] 71) HF.out)
    replace HO2 := Lib.hid (Own.alloc (.cells #[.int .i64 d7, .int .i64 t7] 71) HO2.out)
    replace HP := Lib.hid (OwnP.alloc (.cells #[.int .i64 d7, .int .i64 t7] 71) HP.out)
    replace HS := Lib.hid (Src.alloc (.cells #[.int .i64 d7, .int .i64 t7] 71) HS.out)
    replace HK := Lib.hid (Kp.alloc (.cells #[.int .i64 d7, .int .i64 t7] 71) HK.out)
    clear HO7
    go_wp2
    have hps : ps.length ≤ 101 := by omega
    have hgw := HG.out.lt
    clear hk
    go_loopw [8] (fun l wr => ∃ (ps : List (Int × Int)) (gb cb : Nat), ps.length ≤ 101 ∧ l = .slice (some ⟨gb, 0, none⟩) ps.length cb ∧ w3.heap.size ≤ gb ∧ gb ≠ w7.heap.size ∧ Hid (Src wr X A zs) ∧ Hid (Kp X w wr) ∧ Hid (Blk wr w.heap.size 75 #[.int .i64 0, .int .i64 0, .string ⟨#[]⟩, .slice none 0 0, .int .i64 0, .int .i64 0, .int .i64 0]) ∧ Hid (Blk wr w2.heap.size 75 #[.int .i64 C2.dg, .int .i64 C2.tn, .string C2.nm, .slice (some ⟨g2, 0, none⟩) C2.zs.length c2, .int .i64 C2.wd, .int .i64 C2.lf, .int .i64 C2.rt]) ∧ Hid (Own wr w1.heap.size 2 (.slice (some ⟨g2, 0, none⟩) C2.zs.length c2) C2.zs) ∧ Hid (OwnP wr w3.heap.size 71 (.slice (some ⟨gb, 0, none⟩) ps.length cb) ps) ∧ Hid (Blk wr w7.heap.size 71 #[.int .i64 d7, .int .i64 t7])) (fun l _ => 102 - lenOf l)
    case atStart => exact ⟨ps, gb, cb, hps, rfl, hgb0, by omega, HS, HK, HR1, HF, HO2, HP, HG⟩
    case round =>
      clear HS HK HR1 HF HO2 HP HG hps hgb0 hlP hlP6 hlP7 hlS
      obtain ⟨ps, gb, cb, hps, rfl, hgb0, hgb1, HS, HK, HR1, HF, HO2, HP, HG⟩ := hrel
      have hlP := (World.ownsRow.lt HP.out gb rfl).2
      go_wp2_with fail
      go_at_call 73; refine (l01Next_c X A zs _ (by omega) _ (by repeat (with_reducible first | exact HS.out | refine Src.alloc _ ?_ | refine Src.drew ?_ | refine Src.drewN _ ?_ | (refine Src.far _ ?_ ?_; (have := HS.out.lt; first | omega | (simp; omega))) | (refine Src.setRow _ ?_ ?_; (have := HS.out.lt; first | omega | (simp; omega)))))).mono ?_; rintro e w8 ⟨x8, rfl, hx8, hy8, hd8⟩; (try rw [Int.max_eq_left (by omega)] at hy8); have hkb := hd8.kp; have hka := Kp.ka HK.out hkb (by repeat (with_reducible first | exact Kp.refl _ _ | refine Kp.alloc _ ?_ | refine Kp.drew ?_ | refine Kp.drewN _ ?_)); have hlS8 := HS.out.lt; (try (replace HR1 := Lib.hid (Blk.kp2 hka hkb (by first | omega | (simp; omega)) (by first | omega | (simp; omega)) HR1.out))); (try (replace HF := Lib.hid (Blk.kp2 hka hkb (by first | omega | (simp; omega)) (by first | omega | (simp; omega)) HF.out))); (try (replace HG := Lib.hid (Blk.kp2 hka hkb (by first | omega | (simp; omega)) (by first | omega | (simp; omega)) HG.out))); (try (replace HO2 := Lib.hid (Own.kp3 hka hkb (by first | omega | (simp; omega)) (by first | omega | (simp; omega)) HO2.out))); (try (replace HP := Lib.hid (OwnP.kp3 hka hkb (by first | omega | (simp; omega)) (by first | omega | (simp; omega)) HP.out))); replace HK := Lib.hid (Kp.trans HK.out (Kp.trans hka hkb)); have hsz8 := hkb.size_; have hsy8 := hka.size_; (try simp only [World.size_alloc, World.size_drew, World.heap_drewN, World.size_setCell] at hsz8 hsy8); replace HS := Lib.hid hd8.src; clear hka hkb hd8 hlS8; have hlS8 := HS.out.lt
      have hlP8 := (World.ownsRow.lt HP.out gb rfl).2
      by_cases hlt : (ps.length : Int) < 100 + x8
      · have hpl : ps.length ≤ 100 := by omega
        have hgl8 := HG.out.lt
        go_wp2_with (first | (refine wpList_load_blkG 71 _ _ HG.out Try.underlying71 (by kernel_rfl) rfl rfl (by rfl) ?_) | (at_builtin; refine wpList_app1PX rfl _ _ 86 rfl (w3.heap.size) 71 (.agg #[.int .i64 0, .int .i64 0]) Try.underlying86 (by kernel_rfl) rfl _ ps (d7, t7) rfl (OwnP.alloc _ HP.out) w8.heap.size rfl (by simp [go_sem]) (by simp [go_sem]) (by omega) (by simp; omega) ?_; intro gb' cb' w9 hP9 hk9 hg9; have hkb : Kp gb _ w9 := hk9; have hka := Kp.ka HK.out hkb (Kp.alloc _ (Kp.refl _ _)); replace HR1 := Lib.hid (Blk.kp2 hka hkb (by omega) (by omega) HR1.out); replace HF := Lib.hid (Blk.kp2 hka hkb (by omega) (by omega) HF.out); replace HO2 := Lib.hid (Own.kp3 hka hkb (by omega) (by omega) HO2.out); replace HG := Lib.hid (Blk.kp2 hka hkb (by omega) (by omega) HG.out); replace HS := Lib.hid (Src.kpg2 HS.out (Bel.alloc (Below.refl _ _) _) hkb (by omega)); replace HK := Lib.hid (Kp.own hkb (by omega) (Kp.trans HK.out hka)); replace HP := Lib.hid hP9; have hgb := (World.ownsRow.lt hP9 gb' rfl); have hs9 := hkb.size_; simp only [World.size_alloc] at hs9; clear hka hkb hk9 hP9))
        have hne : gb' ≠ w7.heap.size := by
          rcases hg9 with h | h
          · have h' : gb = gb' := by injection h
            omega
          · simp only [World.size_alloc] at h; omega
        go_roundw
        case rel => exact ⟨ps ++ [(d7, t7)], gb', cb', by simp; omega, by simp, by omega, hne, HS, HK, HR1, HF, HO2, Lib.hid (by rw [List.length_append]; exact HP.out), HG⟩
        case measure => simp [lenOf]; omega
      · go_wp2_with (first | (refine wpList_load_blkG 75 _ _ (Blk.kp (Kp.ka0 HK.out (by repeat (with_reducible first | exact Kp.refl _ _ | refine Kp.alloc _ ?_ | refine Kp.drew ?_ | refine Kp.drewN _ ?_))) (by first | omega | (simp; omega)) HF.out) Try.underlying75 (by kernel_rfl) rfl rfl (by rfl) ?_) | (refine wpList_store_part 75 _ _ _ 0 _ _ (Blk.kp (Kp.ka0 HK.out (by repeat (with_reducible first | exact Kp.refl _ _ | refine Kp.alloc _ ?_ | refine Kp.drew ?_ | refine Kp.drewN _ ?_))) (by first | omega | (simp; omega)) HR1.out) rfl rfl rfl rfl (by rfl) (by kernel_rfl) (by simp [go_sem, Value.cells, Value.oneCell']) (by simp [go_sem, Value.cells]) ?_; intro wS hBS hkb; simp [go_sem, Value.cells, setL] at hBS; have hka := Kp.ka HK.out hkb (by repeat (with_reducible first | exact Kp.refl _ _ | refine Kp.alloc _ ?_ | refine Kp.drew ?_ | refine Kp.drewN _ ?_)); have hlSo := HS.out.lt; (try (replace HF := Lib.hid (Blk.kp2 hka hkb (by first | omega | (simp; omega)) (by first | omega | (simp; omega)) HF.out))); (try (replace HG := Lib.hid (Blk.kp2 hka hkb (by first | omega | (simp; omega)) (by first | omega | (simp; omega)) HG.out))); (try (replace HO2 := Lib.hid (Own.kp3 hka hkb (by first | omega | (simp; omega)) (by first | omega | (simp; omega)) HO2.out))); (try (replace HP := Lib.hid (OwnP.kp3 hka hkb (by first | omega | (simp; omega)) (by first | omega | (simp; omega)) HP.out))); (try replace HS := Lib.hid (Src.kpg2 HS.out (by repeat (with_reducible first | exact Below.refl _ _ | refine Bel.alloc ?_ _ | refine Below.drew ?_ | refine Bel.drewN ?_ _)) hkb (by first | omega | (simp; omega)))); replace HR1 := Lib.hid hBS; replace HK := Lib.hid (Kp.own hkb (by first | omega | (simp; omega)) (Kp.trans HK.out hka)); have hszS := hkb.size_; have hsyS := hka.size_; (try simp only [World.size_alloc, World.size_drew, World.heap_drewN, World.size_setCell] at hszS hsyS); clear hBS hka hkb hlSo; have hlSS := HS.out.lt))
        exact bodyPost_ret (results_3 rfl (resF_cell HR1.out Try.underlying75 (by kernel_rfl) rfl) (resF_tmp _ rfl) (resF_tmp _ rfl)) rfl ⟨C2, g2, c2, x3, ps, gb, cb, rfl, by omega, by omega, by omega, Own.ge_mono HO2.out (by omega), OwnP.ge_mono HP.out (by omega), Kp.toBel HK.out (by omega)⟩
end Go.Proofs.Ythfphjbaglgacaa
