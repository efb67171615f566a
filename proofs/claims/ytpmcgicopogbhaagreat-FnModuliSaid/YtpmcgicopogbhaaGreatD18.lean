/- Draws: formulas. Conditions: as stated at each contract. -/
import Derived.Test.YtpmcgicopogbhaaGreatProg
import Derived.Test.YtpmcgicopogbhaaGreatBase
import Derived.Test.YtpmcgicopogbhaaGreatZz
import Derived.Test.YtpmcgicopogbhaaGreatRw
import Derived.Test.YtpmcgicopogbhaaGreatRg
import Derived.Test.YtpmcgicopogbhaaGreatL01
import Derived.Test.YtpmcgicopogbhaaGreatCp
import Derived.Test.YtpmcgicopogbhaaGreatCm
import Derived.Test.YtpmcgicopogbhaaGreatL18
import Derived.Test.YtpmcgicopogbhaaGreatD00
import Derived.Test.YtpmcgicopogbhaaGreatD01
import Derived.Test.YtpmcgicopogbhaaGreatD02
import Derived.WalkKit
import Derived.WalkSpells
import Derived.WalkLawsBesides
import Derived.Lib.Hide
import Derived.Deep.QuietTactic
import Derived.BigQuiet
import Derived.Deep.Draws
import Derived.Deep.RegionHeld3
import Derived.Deep.Cut
import Derived.Deep.AppendLies
import Derived.Laws.BytesArg
namespace Go.Proofs.YtpmcgicopogbhaaGreat
open Go.RowKit
set_option linter.unusedVariables false
set_option linter.unusedSimpArgs false
theorem infoU8 : (Tryz.prog.info? 5).map (fun i => (i.zero, i.size, i.bytes)) = some (some (.int .u8 0), 1, 1) := by kernel_rfl
/-- An append of one number, which tells where the new row lies. -/
theorem wpList_app1K {P : Program} {w : World} {ops : Array Oper} {rest : List Oper} {o : Oper} {a : Act} {Q : Exit → Act → World → Prop} {k : IntKind} {sz : Nat} (hgd : o.guard = none) (s x : Operand) (t : TypeId)
    (ho : o.op = .call { callee := .builtin .append, args := #[s, x], argTypes := #[t, t] })
    (B : Nat) (e : TypeId) (ht : P.underlying t = some (.slice e)) (hi : (P.info? e).map (fun i => (i.zero, i.size, i.bytes)) = some (some (.int k 0), 1, sz)) (hsz : sz ≤ 8)
    (v : Value) (ns : List Int) (hs : a.eval s = v) (hown : w.ownsRow B e 1 v ns.length (ns.map (Value.int k))) (g : Nat) (y : Int)
    (hx : a.eval x = .slice (some ⟨g, 0, none⟩) 1 1) (hc : w.cell? ⟨g, 0, none⟩ = some (.int k y)) (hl : ns.length ≤ 1000000) (hbase : B ≤ w.heap.size)
    (h : ∀ g' cap w', w'.ownsRow B e 1 (.slice (some ⟨g', 0, none⟩) (ns.length + 1) cap) (ns ++ [y]).length ((ns ++ [y]).map (Value.int k)) → w.grownBy w' v.ownBlock → (v.ownBlock = some g' ∨ g' = w.heap.size) → wpList P ops Q rest (a.put o.dst (.slice (some ⟨g', 0, none⟩) (ns.length + 1) cap)) w') : wpList P ops Q (o :: rest) a w := by
  obtain ⟨i0, hi0, hz0, hz1, hz2⟩ := info_parts hi
  refine wpList_append_lies w hgd s x t ho B e i0 _ 1 sz ht hi0 hz0 hz1 hz2 rfl (by omega) v ns.length _ hs hown ⟨g, 0, none⟩ 1 1 [.int k y] hx rfl ?_ (by simp [Value.oneCell']) (by omega) (by unfold maxLen; omega) ?_ hbase _ rfl ?_
  · intro j u hu
    cases j with
    | zero => simp at hu; subst hu; simpa [Addr.add] using hc
    | succ j => simp at hu
  · have := Nat.mul_le_mul_left (ns.length + 1) hsz; omega
  · intro g' cap w' h1 h2 h3 h4
    refine h g' cap w' ?_ h2 h3
    rw [List.length_append, List.map_append]
    exact h1
theorem row_cell {w : World} {B : Nat} {e : TypeId} {k : IntKind} {g n cap : Nat} {ns : List Int} (hn : ns.length = n) (h : w.ownsRow B e 1 (.slice (some ⟨g, 0, none⟩) n cap) ns.length (ns.map (Value.int k))) : ∀ i, i < n → w.cell? ⟨g, 0 + i, none⟩ = some (.int k (ns.getD i 0)) := by
  intro i hi
  obtain ⟨_, ⟨h2, _⟩ | ⟨g', cap', cur, h2, _, hh, _, _, _, ht⟩⟩ := h
  · cases h2
  · injection h2 with h2 h3 h4
    injection h2 with h2
    injection h2 with h2
    subst h2
    rw [cell_of_row w g (0 + i) cur e (0, 0) hh, Nat.zero_add, ← Array.getElem?_toList]
    have e : (cur.toList.take (ns.length * 1))[i]? = (ns.map (Value.int k))[i]? := by rw [ht]
    rw [List.getElem?_take, if_pos (by omega)] at e
    rw [e]
    simp [List.getD, List.getElem?_eq_getElem (show i < ns.length by omega)]
/-- A formula comes back whose exponents lie in memory of its own. -/
def FmQ (n : Nat) (w : World) (e : Ending) (w' : World) : Prop := ∃ (C : Ch) (g c : Nat), e = .returned (.agg #[.int .i64 C.dg, .int .i64 C.tn, .string C.nm, .slice (some ⟨g, 0, none⟩) C.zs.length c]) ∧ C.zs.length ≤ n ∧ C.nm.size ≤ n ∧ Own w' w.heap.size 2 (.slice (some ⟨g, 0, none⟩) C.zs.length c) C.zs ∧ Below w.heap.size w w'
/-- Two rows grow: letters and exponents. -/
def TwoRows (B k : Nat) (t5 t6 : Value) (w : World) : Prop := ∃ (bs ps : List Int) (g1 c1 g2 c2 : Nat), t5 = .slice (some ⟨g1, 0, none⟩) bs.length c1 ∧ t6 = .slice (some ⟨g2, 0, none⟩) ps.length c2 ∧ g1 ≠ g2 ∧ bs.length ≤ k ∧ ps.length ≤ k ∧
  w.ownsRow B 5 1 (.slice (some ⟨g1, 0, none⟩) bs.length c1) bs.length (bs.map (Value.int .u8)) ∧ Own w B 2 (.slice (some ⟨g2, 0, none⟩) ps.length c2) ps
set_option maxHeartbeats 2000000 in
theorem l18Make_c (d t : Int) (A : Option Addr) (c : Nat) (zs : List Int) (hn : zs.length ≤ 26) (w : World) (hA : Ints w A zs) :
    Calls Tryz.prog 153 #[.agg #[.int .i64 d, .int .i64 t], .slice A zs.length c] w (FmQ 26 w) := by
  have HA := Lib.hid hA
  clear hA
  go_enter Tryz.func153, Tryz.ntmps153
  go_wp2
  have hF0 : Blk ((((w.alloc (.cells #[.int .i64 d, .int .i64 t] 25)).alloc (.cells #[.int .i64 0, .int .i64 0, .string ⟨#[]⟩, .slice none 0 0] 28)).alloc (.cells #[] 5)).alloc (.cells #[] 2)) w.heap.size 25 #[.int .i64 d, .int .i64 t] := Blk.alloc _ (Blk.alloc _ (Blk.alloc _ (Blk.new _ _ _)))
  have hR0 : Blk ((((w.alloc (.cells #[.int .i64 d, .int .i64 t] 25)).alloc (.cells #[.int .i64 0, .int .i64 0, .string ⟨#[]⟩, .slice none 0 0] 28)).alloc (.cells #[] 5)).alloc (.cells #[] 2)) (w.heap.size + 1) 28 #[.int .i64 0, .int .i64 0, .string ⟨#[]⟩, .slice none 0 0] := Blk.alloc _ (Blk.alloc _ (by have h := Blk.new (w.alloc (.cells #[.int .i64 d, .int .i64 t] 25)) 28 #[.int .i64 0, .int .i64 0, .string ⟨#[]⟩, .slice none 0 0]; simp only [World.size_alloc] at h; exact h))
  have hT0 : TwoRows (w.heap.size + 1 + 1) 0 (.slice (some ⟨w.heap.size + 1 + 1, 0, none⟩) 0 0) (.slice (some ⟨w.heap.size + 1 + 1 + 1, 0, none⟩) 0 0) ((((w.alloc (.cells #[.int .i64 d, .int .i64 t] 25)).alloc (.cells #[.int .i64 0, .int .i64 0, .string ⟨#[]⟩, .slice none 0 0] 28)).alloc (.cells #[] 5)).alloc (.cells #[] 2)) := by
    refine ⟨[], [], w.heap.size + 1 + 1, 0, w.heap.size + 1 + 1 + 1, 0, rfl, rfl, by omega, by simp, by simp, ?_, ?_⟩
    · have h := World.ownsRow_made (base := w.heap.size + 1 + 1) (e := 5) (size := 1) ((w.alloc (.cells #[.int .i64 d, .int .i64 t] 25)).alloc (.cells #[.int .i64 0, .int .i64 0, .string ⟨#[]⟩, .slice none 0 0] 28)) #[] 0 (by simp) (by unfold maxLen; omega) (by simp)
      simp only [World.size_alloc] at h
      exact World.ownsRow.alloc h _
    · have h := Own.new (((w.alloc (.cells #[.int .i64 d, .int .i64 t] 25)).alloc (.cells #[.int .i64 0, .int .i64 0, .string ⟨#[]⟩, .slice none 0 0] 28)).alloc (.cells #[] 5)) (w.heap.size + 1 + 1) 2 (by simp)
      simp only [World.size_alloc] at h
      exact h
  have hbel0 : Below w.heap.size w ((((w.alloc (.cells #[.int .i64 d, .int .i64 t] 25)).alloc (.cells #[.int .i64 0, .int .i64 0, .string ⟨#[]⟩, .slice none 0 0] 28)).alloc (.cells #[] 5)).alloc (.cells #[] 2)) := by repeat (with_reducible first | exact Below.refl _ _ | assumption | refine Bel.alloc ?_ _ | refine Bel.step (by assumption) ?_ | refine Below.drew ?_ | refine Bel.drewN ?_ _ | refine Below.setCell ?_ (by first | exact Nat.le_refl _ | omega | (simp; done) | (simp; omega)) _)
  generalize (((w.alloc (.cells #[.int .i64 d, .int .i64 t] 25)).alloc (.cells #[.int .i64 0, .int .i64 0, .string ⟨#[]⟩, .slice none 0 0] 28)).alloc (.cells #[] 5)).alloc (.cells #[] 2) = w0 at hF0 hR0 hT0 hbel0 ⊢
  go_loopw [5, 6, 7] (fun a b i wr => ∃ k : Nat, k ≤ zs.length ∧ i = .int .i64 k ∧ TwoRows (w.heap.size + 1 + 1) k a b wr ∧ Blk wr w.heap.size 25 #[.int .i64 d, .int .i64 t] ∧ Blk wr (w.heap.size + 1) 28 #[.int .i64 0, .int .i64 0, .string ⟨#[]⟩, .slice none 0 0] ∧ Below w.heap.size w wr) (fun _ _ i _ => zs.length - (intOf i).toNat)
  case atStart => exact ⟨0, Nat.zero_le _, rfl, hT0, hF0, hR0, hbel0⟩
  case round =>
    clear hF0 hR0 hT0 hbel0
    obtain ⟨k, hk, rfl, hT, hF, hR, hbel⟩ := hrel
    obtain ⟨bs, ps, g1, c1, g2, c2, rfl, rfl, hg, hl1, hl2, hO1, hO2⟩ := hT
    have hb1 : w.heap.size + 1 + 1 ≤ g1 := (World.ownsRow.lt hO1 g1 rfl).1
    have hb2 : w.heap.size + 1 + 1 ≤ g2 := hO2.ge g2 rfl
    have hs1 : g1 < wr.heap.size := (World.ownsRow.lt hO1 g1 rfl).2
    have hs2 : g2 < wr.heap.size := (World.ownsRow.lt hO2 g2 rfl).2
    have hsw := hR.lt
    by_cases hlt : k < zs.length
    · obtain ⟨b, o, rfl, hb0, c0⟩ := HA.out.at_ k hlt
      have ck := (hbel.cell (p := ⟨b, o + k, none⟩) hb0).trans c0
      have hb : b < wr.heap.size := Nat.lt_of_lt_of_le hb0 hbel.size
      clear c0
      generalize zs[k] = z at *
      by_cases hz : z = 0
      · go_wp2
        go_roundw
        case rel => exact ⟨k + 1, by omega, by go_num, ⟨bs, ps, g1, c1, g2, c2, rfl, rfl, hg, by omega, by omega, hO1, hO2⟩, hF, hR, hbel⟩
        case measure => simp [intOf]; omega
      · go_wp2_with (first
          | (at_builtin; refine wpList_app1K rfl _ _ 22 rfl (w.heap.size + 1 + 1) 5 Tryz.underlying22 infoU8 (by omega) _ bs rfl (World.ownsRow.alloc hO1 _) wr.heap.size _ rfl (by simp [go_sem]; rfl) (by omega) (by simp; omega) ?_; intro g1' c1' w1 hO1' hk1 hg1'; have hk1' : Kp g1 _ w1 := hk1; have ck1 : w1.cell? ⟨b, o + k, none⟩ = some (.int .i64 z) := (World.cell?_of_block (hk1'.block b (by simp; omega) (by simp; omega))).trans (((Bel.alloc (Below.refl _ _) _).cell (p := ⟨b, o + k, none⟩) hb).trans ck); have hs1' := hk1'.size_; simp at hs1')
          | (at_builtin; refine wpList_app1K rfl _ _ 26 rfl (w.heap.size + 1 + 1) 2 Tryz.underlying26 info64 (by omega) _ ps rfl (World.ownsRow.alloc (World.ownsRow.kept (World.ownsRow.alloc hO2 _) hk1' (.inr (by simp [Value.ownBlock]; omega))) _) w1.heap.size _ rfl (by simp [go_sem]; rfl) (by omega) (by simp; omega) ?_; intro g2' c2' w2 hO2' hk2 hg2'; have hk2' : Kp g2 _ w2 := hk2; have hs2' := hk2'.size_; simp at hs2'))
        have hn1 : g1' ≠ g2 := by
          rcases hg1' with h | h
          · have h' : g1 = g1' := by injection h
            omega
          · simp at h; omega
        have hn2 : g1' ≠ g2' := by
          have := (World.ownsRow.lt hO1' g1' rfl).2
          rcases hg2' with h | h
          · have h' : g2 = g2' := by injection h
            omega
          · simp at h; omega
        have hg1lt : g1' < w1.heap.size := (World.ownsRow.lt hO1' g1' rfl).2
        have hB1 : w.heap.size + 1 + 1 ≤ g1' := (World.ownsRow.lt hO1' g1' rfl).1
        have hO1'' := World.ownsRow.kept (World.ownsRow.alloc hO1' (.cells #[.int .i64 z] 2)) hk2' (.inr (by simp [Value.ownBlock]; exact hn1))
        rw [show bs.length + 1 = (bs ++ [97 + (k : Int)]).length from by simp] at hO1''
        have hO2'' : Own w2 (w.heap.size + 1 + 1) 2 (.slice (some ⟨g2', 0, none⟩) (ps ++ [z]).length c2') (ps ++ [z]) := by rw [show (ps ++ [z]).length = ps.length + 1 from by simp]; exact hO2'
        have hF2 := (Blk.alloc (.cells #[.int .i64 z] 2) ((Blk.alloc (.cells #[.int .u8 (97 + (k : Int))] 5) hF).kp hk1' (by omega))).kp hk2' (by omega)
        have hR2 := (Blk.alloc (.cells #[.int .i64 z] 2) ((Blk.alloc (.cells #[.int .u8 (97 + (k : Int))] 5) hR).kp hk1' (by omega))).kp hk2' (by omega)
        have hbel2 := Kp.bel hk2' (by omega) (by simp; omega) (Bel.alloc (Kp.bel hk1' (by omega) (by simp; omega) (Bel.alloc hbel (.cells #[.int .u8 (97 + (k : Int))] 5))) (.cells #[.int .i64 z] 2))
        clear hO1 hO2 hO1' hk1 hk2 hk1' hk2' hF hR hbel ck1
        go_roundw
        case rel => exact ⟨k + 1, by omega, by go_num, ⟨bs ++ [97 + (k : Int)], ps ++ [z], g1', c1', g2', c2', by simp, by simp, hn2, by simp; omega, by simp; omega, hO1'', hO2''⟩, hF2, hR2, hbel2⟩
        case measure => simp [intOf]; omega
    · obtain rfl : k = zs.length := by omega
      have kc := run_convert_bytes_arg (P := Tryz.prog) wr 22 5 Tryz.underlying22 Tryz.underlying5 g1 0 bs.length c1 bs rfl (row_cell rfl hO1) 9 Tryz.underlying9
      have f0 : wr.cell? ⟨w.heap.size, 0, none⟩ = some (.int .i64 d) := by rw [hF.cell]; rfl
      have f1 : wr.cell? ⟨w.heap.size, 1, none⟩ = some (.int .i64 t) := by rw [hF.cell]; rfl
      have HB := Lib.hid (strOfNums_size bs)
      have HR := Lib.hid hR
      generalize strOfNums bs = nm at kc HB
      have hO2' := Lib.hid hO2
      clear hO2 hO1 hR
      go_wp2_with (refine wpList_store_part 28 _ _ _ 0 _ _ HR.out rfl rfl rfl rfl (by rfl) (by kernel_rfl) (by simp [go_sem, Value.cells, Value.oneCell']) (by simp [go_sem, Value.cells]) ?_; intro wS hBS hkb; simp [go_sem, Value.cells, setL] at hBS)
      exact bodyPost_ret (results_blk hBS Tryz.underlying28 (by kernel_rfl) rfl rfl) rfl ⟨⟨d, t, nm, ps, 0, 0, 0⟩, g2, c2, rfl, by (show ps.length ≤ 26); omega, by (show nm.size ≤ 26); have := HB.out; omega, Own.ge_mono (Own.kp hkb (by omega) hO2'.out) (by omega), Kp.bel hkb (by omega) (by omega) hbel⟩
/-- A call that draws a formula whose exponents lie in memory of its own. -/
def DrFm (n : Nat) (X : Nat) (A : Option Addr) (zs : List Int) (w : World) (e : Ending) (w' : World) : Prop := ∃ (C : Ch) (g c : Nat), e = .returned (.agg #[.int .i64 C.dg, .int .i64 C.tn, .string C.nm, .slice (some ⟨g, 0, none⟩) C.zs.length c]) ∧ C.zs.length ≤ n ∧ C.nm.size ≤ n ∧ Own w' w.heap.size 2 (.slice (some ⟨g, 0, none⟩) C.zs.length c) C.zs ∧ Dr X A zs w w'
theorem mkI (n : Nat) (hn : n ≤ 1048576) (W : World) : (Instr.makeSlice 26 (.int .i64 (n : Int)) (.int .i64 (n : Int))).run Tryz.prog W = .ok (.slice (some ⟨W.heap.size, 0, none⟩) n n) (W.alloc (.cells (icells (List.replicate n 0)) 2)) := by
  obtain ⟨i0, hi, hz0, hz1, hz2⟩ := info_parts info64
  have h := run_make (P := Tryz.prog) W 26 2 i0 _ Tryz.underlying26 hi hz0 .i64 .i64 n n (by omega) (by omega) (by rw [hz2]; omega) (by omega)
  simp only [Int.toNat_natCast, hz1] at h
  rw [← cells_zero]
  exact h
set_option maxHeartbeats 2000000 in
theorem l18Valid_c (X : Nat) (A : Option Addr) (zs : List Int) (w : World) (hS : Src w X A zs) :
    Calls Tryz.prog 136 #[.pointer (some ⟨X, 0, none⟩)] w (DrFm 26 X A zs w) := by
  have hlX := hS.lt
  have HS := Lib.hid hS
  clear hS
  have hmk : ∀ W : World, (Instr.makeSlice 26 (.int .i64 6) (.int .i64 6)).run Tryz.prog W = .ok (.slice (some ⟨W.heap.size, 0, none⟩) 6 6) (W.alloc (.cells (icells (List.replicate 6 0)) 2)) := fun W => mkI 6 (by omega) W
  go_enter Tryz.func136, Tryz.ntmps136
  go_wp2
  have hR0 : Blk ((w.alloc (.cells #[.int .i64 0, .int .i64 0, .string ⟨#[]⟩, .slice none 0 0] 28)).alloc (.cells (icells [0, 0, 0, 0, 0, 0]) 2)) w.heap.size 28 #[.int .i64 0, .int .i64 0, .string ⟨#[]⟩, .slice none 0 0] := Blk.alloc _ (Blk.new _ _ _)
  have hB0 : Blk ((w.alloc (.cells #[.int .i64 0, .int .i64 0, .string ⟨#[]⟩, .slice none 0 0] 28)).alloc (.cells (icells [0, 0, 0, 0, 0, 0]) 2)) (w.heap.size + 1) 2 (icells [0, 0, 0, 0, 0, 0]) := by have h := Blk.new (w.alloc (.cells #[.int .i64 0, .int .i64 0, .string ⟨#[]⟩, .slice none 0 0] 28)) 2 (icells [0, 0, 0, 0, 0, 0]); simp only [World.size_alloc] at h; exact h
  have hS0 := Src.alloc (.cells (icells [0, 0, 0, 0, 0, 0]) 2) (Src.alloc (.cells #[.int .i64 0, .int .i64 0, .string ⟨#[]⟩, .slice none 0 0] 28) HS.out)
  have hK0 := Kp.alloc (.cells (icells [0, 0, 0, 0, 0, 0]) 2) (Kp.alloc (.cells #[.int .i64 0, .int .i64 0, .string ⟨#[]⟩, .slice none 0 0] 28) (Kp.refl X w))
  generalize (w.alloc (.cells #[.int .i64 0, .int .i64 0, .string ⟨#[]⟩, .slice none 0 0] 28)).alloc (.cells (icells [0, 0, 0, 0, 0, 0]) 2) = w0 at hR0 hB0 hS0 hK0 ⊢
  go_loopw [4] (fun i wr => ∃ (k : Nat) (l : List Int), k ≤ 6 ∧ i = .int .i64 k ∧ Hid (l.length = 6) ∧ Hid (Src wr X A zs) ∧ Hid (Kp X w wr) ∧ Hid (Blk wr (w.heap.size + 1) 2 (icells l)) ∧ Hid (Blk wr w.heap.size 28 #[.int .i64 0, .int .i64 0, .string ⟨#[]⟩, .slice none 0 0])) (fun i _ => 6 - (intOf i).toNat)
  case atStart => exact ⟨0, [0, 0, 0, 0, 0, 0], by omega, rfl, rfl, hS0, hK0, hB0, hR0⟩
  case round =>
    clear hS0 hK0 hB0 hR0 HS
    obtain ⟨k, l, hk, rfl, HL, HS, HK, HB, HR⟩ := hrel
    have hs0 := HB.out.lt
    by_cases hlt : k < 6
    · go_wp2_with fail
      go_at_call 79; refine (l01Pick_c X A zs _ _ 2 _ _ (zsr HS) (by repeat (first | exact Blk.new _ _ _ | refine Blk.alloc _ ?_)) (by rfl) (by omega) (by omega) (by simp [isI]) (Nat.ne_of_gt (by have := HS.out.lt; first | omega | (simp; omega)))).mono ?_; rintro e w1 ⟨x1, i1, hi1, hp1, rfl, hd1⟩; have HP1 := Lib.hid hp1; clear hp1; have hkb := hd1.kp; have hka := zka HK hkb; have hlS1 := HS.out.lt; (try replace HR := zb hka hkb HR); (try replace HB := zb hka hkb HB); replace HK := zt HK hka hkb; have hsz1 := hkb.size_; have hsy1 := hka.size_; (try simp only [World.size_alloc, World.size_drew, World.heap_drewN, World.size_setCell] at hsz1 hsy1); replace HS := Lib.hid hd1.src; clear hka hkb hd1 hlS1; have hlS1 := HS.out.lt
      have hlB := HB.out.lt
      go_wp2_with (refine wpList_store_part 2 _ _ _ k _ _ HB.out rfl rfl (by simp [go_sem]) rfl (by rfl) (by kernel_rfl) (by simp [go_sem, Value.cells, Value.oneCell']) (by rw [icells_size, HL.out]; simp [go_sem, Value.cells]; omega) ?_; intro wS hBS hkb; simp [go_sem, Value.cells, setL] at hBS)
      rw [icells_set] at hBS
      have HL2 := Lib.hid (show (l.set k x1).length = 6 by rw [List.length_set]; exact HL.out)
      have HS2 := Lib.hid (Src.kpg hkb (by omega) HS.out)
      have HK2 := Lib.hid (Kp.own hkb (by omega) HK.out)
      have HR2 := Lib.hid (HR.out.kp hkb (by omega))
      clear hkb HP1
      go_roundw
      case rel => exact ⟨k + 1, l.set k x1, by omega, by go_num, HL2, HS2, HK2, Lib.hid hBS, HR2⟩
      case measure => simp [intOf]; omega
    · obtain rfl : k = 6 := by omega
      have hlS := HS.out.lt
      go_wp2_with fail
      go_at_call 96; refine (l02Valid_c X A zs _ (zsr HS)).mono ?_; rintro e w2 ⟨d2, t2, rfl, ho2, hd2⟩; have HO2 := Lib.hid ho2; clear ho2; have hkb := hd2.kp; have hka := zka HK hkb; have hlS2 := HS.out.lt; (try replace HR := zb hka hkb HR); (try replace HB := zb hka hkb HB); replace HK := zt HK hka hkb; have hsz2 := hkb.size_; have hsy2 := hka.size_; (try simp only [World.size_alloc, World.size_drew, World.heap_drewN, World.size_setCell] at hsz2 hsy2); replace HS := Lib.hid hd2.src; clear hka hkb hd2 hlS2; have hlS2 := HS.out.lt
      have HMK := Lib.hid (by have h := l18Make_c d2 t2 (some ⟨w.heap.size + 1, 0, none⟩) 6 l (by rw [HL.out]; omega) w2 HB.out.ints; rw [HL.out] at h; exact h)
      go_wp2_with fail
      go_at_call 153; refine (HMK.out).mono ?_; rintro e w3 ⟨C, g, c, rfl, hz1, hz2, hO, hb⟩
      replace HR := Lib.hid (Blk.step hb HR.out)
      replace HS := Lib.hid (Src.step hb HS.out)
      replace HK := Lib.hid (Kp.below hb HK.out)
      have HO := Lib.hid hO
      have hs3 := hb.size
      clear hb hO HMK HB HO2
      go_wp2_with (first | (refine wpList_store_part 28 _ _ _ 0 _ _ (Blk.kp (zk0 HK) (by first | omega | (simp; omega)) HR.out) rfl rfl rfl rfl (by rfl) (by kernel_rfl) (by simp [go_sem, Value.cells, Value.oneCell']) (by simp [go_sem, Value.cells]) ?_; intro wS hBS hkb; simp [go_sem, Value.cells, setL] at hBS; have hka := zka HK hkb; have hlSo := HS.out.lt; (try replace HO := zO hka hkb HO); (try replace HS := Lib.hid (Src.kpg2 HS.out (by repeat (with_reducible first | exact Below.refl _ _ | refine Bel.alloc ?_ _ | refine Below.drew ?_ | refine Bel.drewN ?_ _)) hkb (by first | omega | (simp; omega)))); replace HR := Lib.hid hBS; replace HK := Lib.hid (Kp.own hkb (by first | omega | (simp; omega)) (Kp.trans HK.out hka)); have hszS := hkb.size_; have hsyS := hka.size_; (try simp only [World.size_alloc, World.size_drew, World.heap_drewN, World.size_setCell] at hszS hsyS); clear hBS hka hkb hlSo; have hlSS := HS.out.lt))
      exact bodyPost_ret (results_blk HR.out Tryz.underlying28 (by kernel_rfl) rfl rfl) rfl ⟨C, g, c, rfl, by omega, by omega, Own.ge_mono HO.out (by omega), HS.out, HK.out⟩
theorem l01Own0_c (g c n : Nat) (hn : n = 0) (w : World) :
    Calls Tryz.prog 101 #[.slice (some ⟨g, 0, none⟩) n c] w fun e w' => ∃ q, e = .returned (.slice (some ⟨q, 0, none⟩) 0 0) ∧ Own w' w.heap.size 2 (.slice (some ⟨q, 0, none⟩) 0 0) [] ∧ Below w.heap.size w w' := by
  subst hn
  go_enter Tryz.func101, Tryz.ntmps101
  go_wp2
  go_ret
  exact ⟨w.heap.size, rfl, Own.new _ _ _ (Nat.le_refl _), by repeat (with_reducible first | exact Below.refl _ _ | assumption | refine Bel.alloc ?_ _ | refine Bel.step (by assumption) ?_ | refine Below.drew ?_ | refine Bel.drewN ?_ _ | refine Below.setCell ?_ (by first | exact Nat.le_refl _ | omega | (simp; done) | (simp; omega)) _)⟩
set_option maxRecDepth 20000 in
set_option maxHeartbeats 2000000 in
theorem l18Draw_c (X : Nat) (A : Option Addr) (zs : List Int) (w : World) (hS : Src w X A zs) :
    Calls Tryz.prog 102 #[.pointer (some ⟨X, 0, none⟩)] w (DrFm 27 X A zs w) := by
  have hlX := hS.lt
  have HS := Lib.hid (Src.alloc (.cells #[.int .i64 0, .int .i64 0, .string ⟨#[]⟩, .slice none 0 0] 28) hS)
  have HK := Lib.hid (Kp.alloc (.cells #[.int .i64 0, .int .i64 0, .string ⟨#[]⟩, .slice none 0 0] 28) (Kp.refl X w))
  have HR := Lib.hid (Blk.new w 28 #[.int .i64 0, .int .i64 0, .string ⟨#[]⟩, .slice none 0 0])
  clear hS
  go_enter Tryz.func102, Tryz.ntmps102
  go_wp2_with fail
  go_at_call 136; refine (l18Valid_c X A zs _ (zsr HS)).mono ?_; rintro e w1 ⟨C1, g1, c1, rfl, hn1, hm1, hO1, hd1⟩; obtain ⟨hq1, hr1⟩ := World.ownsRow.lt hO1 g1 rfl; (try simp only [World.size_alloc] at hq1); have HO1 := Lib.hid hO1; clear hO1; have hkb := hd1.kp; have hka := zka HK hkb; have hlS1 := HS.out.lt; (try replace HR := zb hka hkb HR); replace HK := zt HK hka hkb; have hsz1 := hkb.size_; have hsy1 := hka.size_; (try simp only [World.size_alloc, World.size_drew, World.heap_drewN, World.size_setCell] at hsz1 hsy1); replace HS := Lib.hid hd1.src; clear hka hkb hd1 hlS1; have hlS1 := HS.out.lt
  have HF := Lib.hid (Blk.new w1 28 #[.int .i64 C1.dg, .int .i64 C1.tn, .string C1.nm, .slice (some ⟨g1, 0, none⟩) C1.zs.length c1])
  replace HR := Lib.hid (Blk.alloc (.cells #[.int .i64 C1.dg, .int .i64 C1.tn, .string C1.nm, .slice (some ⟨g1, 0, none⟩) C1.zs.length c1] 28) HR.out)
  replace HO1 := Lib.hid (Own.alloc (.cells #[.int .i64 C1.dg, .int .i64 C1.tn, .string C1.nm, .slice (some ⟨g1, 0, none⟩) C1.zs.length c1] 28) HO1.out)
  replace HS := Lib.hid (Src.alloc (.cells #[.int .i64 C1.dg, .int .i64 C1.tn, .string C1.nm, .slice (some ⟨g1, 0, none⟩) C1.zs.length c1] 28) HS.out)
  replace HK := Lib.hid (Kp.alloc (.cells #[.int .i64 C1.dg, .int .i64 C1.tn, .string C1.nm, .slice (some ⟨g1, 0, none⟩) C1.zs.length c1] 28) HK.out)
  go_wp2_with fail
  go_at_call 46; refine (l01Next_c X A zs _ (by omega) _ (zsr HS)).mono ?_; rintro e w2 ⟨x2, rfl, hx2, hy2, hd2⟩; (try rw [Int.max_eq_left (by omega)] at hy2); have hkb := hd2.kp; have hka := zka HK hkb; have hlS2 := HS.out.lt; (try replace HR := zb hka hkb HR); (try replace HF := zb hka hkb HF); (try replace HO1 := zo hka hkb HO1); replace HK := zt HK hka hkb; have hsz2 := hkb.size_; have hsy2 := hka.size_; (try simp only [World.size_alloc, World.size_drew, World.heap_drewN, World.size_setCell] at hsz2 hsy2); replace HS := Lib.hid hd2.src; clear hka hkb hd2 hlS2; have hlS2 := HS.out.lt
  by_cases h0 : x2 = 0
  · go_wp2_with fail
    go_at_call 89; refine (l02Draw_c X A zs _ (zsr HS)).mono ?_; rintro e w3 ⟨d3, t3, rfl, ho3, hd3⟩; clear ho3; have hkb := hd3.kp; have hka := zka HK hkb; have hlS3 := HS.out.lt; (try replace HR := zb hka hkb HR); (try replace HF := zb hka hkb HF); (try replace HO1 := zo hka hkb HO1); replace HK := zt HK hka hkb; have hsz3 := hkb.size_; have hsy3 := hka.size_; (try simp only [World.size_alloc, World.size_drew, World.heap_drewN, World.size_setCell] at hsz3 hsy3); replace HS := Lib.hid hd3.src; clear hka hkb hd3 hlS3; have hlS3 := HS.out.lt
    go_wp2_with (first | (refine wpList_store_part 25 _ _ _ 0 _ _ (Blk.kp (zk0 HK) (by first | omega | (simp; omega)) HF.out) rfl rfl rfl rfl (by rfl) (by kernel_rfl) (by simp [go_sem, Value.cells, Value.oneCell']) (by simp [go_sem, Value.cells]) ?_; intro wS hBS hkb; simp [go_sem, Value.cells, setL] at hBS; have hka := zka HK hkb; have hlSo := HS.out.lt; (try replace HR := zb hka hkb HR); (try replace HO1 := zo hka hkb HO1); (try replace HS := Lib.hid (Src.kpg2 HS.out (by repeat (with_reducible first | exact Below.refl _ _ | refine Bel.alloc ?_ _ | refine Below.drew ?_ | refine Bel.drewN ?_ _)) hkb (by first | omega | (simp; omega)))); replace HF := Lib.hid hBS; replace HK := Lib.hid (Kp.own hkb (by first | omega | (simp; omega)) (Kp.trans HK.out hka)); have hszS := hkb.size_; have hsyS := hka.size_; (try simp only [World.size_alloc, World.size_drew, World.heap_drewN, World.size_setCell] at hszS hsyS); clear hBS hka hkb hlSo; have hlSS := HS.out.lt) | (refine wpList_load_blkG 28 _ _ (Blk.kp (zk0 HK) (by first | omega | (simp; omega)) HF.out) Tryz.underlying28 (by kernel_rfl) rfl rfl (by rfl) ?_) | (refine wpList_store_part 28 _ _ _ 0 _ _ (Blk.kp (zk0 HK) (by first | omega | (simp; omega)) HR.out) rfl rfl rfl rfl (by rfl) (by kernel_rfl) (by simp [go_sem, Value.cells, Value.oneCell']) (by simp [go_sem, Value.cells]) ?_; intro wS hBS hkb; simp [go_sem, Value.cells, setL] at hBS; have hka := zka HK hkb; have hlSo := HS.out.lt; (try replace HF := zb hka hkb HF); (try replace HO1 := zo hka hkb HO1); (try replace HS := Lib.hid (Src.kpg2 HS.out (by repeat (with_reducible first | exact Below.refl _ _ | refine Bel.alloc ?_ _ | refine Below.drew ?_ | refine Bel.drewN ?_ _)) hkb (by first | omega | (simp; omega)))); replace HR := Lib.hid hBS; replace HK := Lib.hid (Kp.own hkb (by first | omega | (simp; omega)) (Kp.trans HK.out hka)); have hszS := hkb.size_; have hsyS := hka.size_; (try simp only [World.size_alloc, World.size_drew, World.heap_drewN, World.size_setCell] at hszS hsyS); clear hBS hka hkb hlSo; have hlSS := HS.out.lt))
    exact bodyPost_ret (results_blk HR.out Tryz.underlying28 (by kernel_rfl) rfl rfl) rfl ⟨{ C1 with dg := d3, tn := t3 }, g1, c1, rfl, by (show C1.zs.length ≤ 27); omega, by (show C1.nm.size ≤ 27); omega, Own.ge_mono HO1.out (by simp), HS.out, HK.out⟩
  by_cases h1 : x2 = 1
  · have p2 : w2.cell? ⟨w1.heap.size, 2, none⟩ = some (.string C1.nm) := by rw [HF.out.cell]; rfl
    go_wp2_with (first | (refine wpList_store_part 9 _ _ _ 2 _ _ (Blk.kp (zk0 HK) (by first | omega | (simp; omega)) HF.out) rfl rfl rfl rfl (by rfl) (by kernel_rfl) (by simp [go_sem, Value.cells, Value.oneCell']) (by simp [go_sem, Value.cells]) ?_; intro wS hBS hkb; simp [go_sem, Value.cells, setL] at hBS; have hka := zka HK hkb; have hlSo := HS.out.lt; (try replace HR := zb hka hkb HR); (try replace HO1 := zo hka hkb HO1); (try replace HS := Lib.hid (Src.kpg2 HS.out (by repeat (with_reducible first | exact Below.refl _ _ | refine Bel.alloc ?_ _ | refine Below.drew ?_ | refine Bel.drewN ?_ _)) hkb (by first | omega | (simp; omega)))); replace HF := Lib.hid hBS; replace HK := Lib.hid (Kp.own hkb (by first | omega | (simp; omega)) (Kp.trans HK.out hka)); have hszS := hkb.size_; have hsyS := hka.size_; (try simp only [World.size_alloc, World.size_drew, World.heap_drewN, World.size_setCell] at hszS hsyS); clear hBS hka hkb hlSo; have hlSS := HS.out.lt) | (refine wpList_load_blkG 28 _ _ (Blk.kp (zk0 HK) (by first | omega | (simp; omega)) HF.out) Tryz.underlying28 (by kernel_rfl) rfl rfl (by rfl) ?_) | (refine wpList_store_part 28 _ _ _ 0 _ _ (Blk.kp (zk0 HK) (by first | omega | (simp; omega)) HR.out) rfl rfl rfl rfl (by rfl) (by kernel_rfl) (by simp [go_sem, Value.cells, Value.oneCell']) (by simp [go_sem, Value.cells]) ?_; intro wS hBS hkb; simp [go_sem, Value.cells, setL] at hBS; have hka := zka HK hkb; have hlSo := HS.out.lt; (try replace HF := zb hka hkb HF); (try replace HO1 := zo hka hkb HO1); (try replace HS := Lib.hid (Src.kpg2 HS.out (by repeat (with_reducible first | exact Below.refl _ _ | refine Bel.alloc ?_ _ | refine Below.drew ?_ | refine Bel.drewN ?_ _)) hkb (by first | omega | (simp; omega)))); replace HR := Lib.hid hBS; replace HK := Lib.hid (Kp.own hkb (by first | omega | (simp; omega)) (Kp.trans HK.out hka)); have hszS := hkb.size_; have hsyS := hka.size_; (try simp only [World.size_alloc, World.size_drew, World.heap_drewN, World.size_setCell] at hszS hsyS); clear hBS hka hkb hlSo; have hlSS := HS.out.lt))
    exact bodyPost_ret (results_blk HR.out Tryz.underlying28 (by kernel_rfl) rfl rfl) rfl ⟨{ C1 with nm := C1.nm ++ ⟨#[97]⟩ }, g1, c1, rfl, by (show C1.zs.length ≤ 27); omega, by (show (C1.nm ++ ⟨#[97]⟩).size ≤ 27); rw [ByteArray.size_append]; have : (⟨#[97]⟩ : ByteArray).size = 1 := rfl; omega, Own.ge_mono HO1.out (by simp), HS.out, HK.out⟩
  by_cases h2 : x2 = 2
  · have p3 : w2.cell? ⟨w1.heap.size, 3, none⟩ = some (.slice (some ⟨g1, 0, none⟩) C1.zs.length c1) := by rw [HF.out.cell]; rfl
    by_cases hz : C1.zs.length = 0
    · have HZ := Lib.hid hz
      clear hz
      go_wp2_with fail
      go_at_call 101; refine (l01Own0_c g1 c1 C1.zs.length HZ.out _).mono ?_; rintro e w3 ⟨q, rfl, hO, hb⟩
      obtain ⟨hq, hr⟩ := World.ownsRow.lt hO q rfl
      replace HF := Lib.hid (Blk.step hb HF.out)
      replace HR := Lib.hid (Blk.step hb HR.out)
      replace HS := Lib.hid (Src.step hb HS.out)
      replace HK := Lib.hid (Kp.below hb HK.out)
      have HO := Lib.hid hO
      have hs3 := hb.size
      clear hb hO HO1 p3
      have p0 : w3.cell? ⟨w1.heap.size, 0, none⟩ = some (.int .i64 C1.dg) := by rw [HF.out.cell]; rfl
      have p1 : w3.cell? ⟨w1.heap.size, 1, none⟩ = some (.int .i64 C1.tn) := by rw [HF.out.cell]; rfl
      have p2 : w3.cell? ⟨w1.heap.size, 2, none⟩ = some (.string C1.nm) := by rw [HF.out.cell]; rfl
      go_wp2_with (first | (refine wpList_store_part 28 _ _ _ 0 _ _ (Blk.kp (zk0 HK) (by first | omega | (simp; omega)) HR.out) rfl rfl rfl rfl (by rfl) (by kernel_rfl) (by simp [go_sem, Value.cells, Value.oneCell']) (by simp [go_sem, Value.cells]) ?_; intro wS hBS hkb; simp [go_sem, Value.cells, setL] at hBS; have hka := zka HK hkb; have hlSo := HS.out.lt; (try replace HO := zo hka hkb HO); (try replace HS := Lib.hid (Src.kpg2 HS.out (by repeat (with_reducible first | exact Below.refl _ _ | refine Bel.alloc ?_ _ | refine Below.drew ?_ | refine Bel.drewN ?_ _)) hkb (by first | omega | (simp; omega)))); replace HR := Lib.hid hBS; replace HK := Lib.hid (Kp.own hkb (by first | omega | (simp; omega)) (Kp.trans HK.out hka)); have hszS := hkb.size_; have hsyS := hka.size_; (try simp only [World.size_alloc, World.size_drew, World.heap_drewN, World.size_setCell] at hszS hsyS); clear hBS hka hkb hlSo; have hlSS := HS.out.lt))
      exact bodyPost_ret (results_blk HR.out Tryz.underlying28 (by kernel_rfl) rfl rfl) rfl ⟨{ C1 with zs := [] }, q, 0, rfl, by simp, by (show C1.nm.size ≤ 27); omega, Own.ge_mono HO.out (by omega), HS.out, HK.out⟩
    have h0z : 0 < C1.zs.length := by omega
    clear hz
    go_wp2_with fail
    go_at_call 101; refine (l01Own_c (some ⟨g1, 0, none⟩) c1 C1.zs h0z (by omega) _ (by obtain ⟨_, _, e, _, _, hI, _⟩ := HO1.out.form; injection e with e _ _; rw [e]; exact hI)).mono ?_; rintro e w3 ⟨v, rfl, hO, hb⟩
    obtain ⟨A3, c3, rfl, hc3, hm3, _, hF3⟩ := hO.form
    obtain ⟨q, cur, rfl, hq, hBq, hcs, hct⟩ := hF3 h0z
    replace HF := Lib.hid (Blk.step hb HF.out)
    replace HR := Lib.hid (Blk.step hb HR.out)
    replace HS := Lib.hid (Src.step hb HS.out)
    replace HK := Lib.hid (Kp.below hb HK.out)
    have HQ := Lib.hid hBq
    have HC := Lib.hid (And.intro hcs hct)
    have hs3 := hb.size
    have hq3 := hBq.lt
    clear hb hO HO1 p3 hBq hcs hct
    go_wp2_with fail
    go_at_call 79; refine (l01Pick_c X A zs _ _ 2 _ _ (zsr HS) (by repeat (first | exact Blk.new _ _ _ | refine Blk.alloc _ ?_)) (by rfl) (by omega) (by omega) (by simp [isI]) (Nat.ne_of_gt (by have := HS.out.lt; first | omega | (simp; omega)))).mono ?_; rintro e w4 ⟨x4, i4, hi4, hp4, rfl, hd4⟩; have HP4 := Lib.hid hp4; clear hp4; have hkb := hd4.kp; have hka := zka HK hkb; have hlS4 := HS.out.lt; (try replace HR := zb hka hkb HR); (try replace HF := zb hka hkb HF); (try replace HQ := zb hka hkb HQ); replace HK := zt HK hka hkb; have hsz4 := hkb.size_; have hsy4 := hka.size_; (try simp only [World.size_alloc, World.size_drew, World.heap_drewN, World.size_setCell] at hsz4 hsy4); replace HS := Lib.hid hd4.src; clear hka hkb hd4 hlS4; have hlS4 := HS.out.lt
    go_wp2_with (first | (refine wpList_store_part 2 _ _ _ 0 (.int .i64 x4) #[.int .i64 x4] HQ.out rfl rfl (by simp [go_sem]) rfl (by rfl) (by kernel_rfl) (by simp [Value.oneCell']) (by have := HC.out.1; (show 0 + 1 ≤ cur.size); omega) ?_; intro wS hBS hkb; simp only [setL] at hBS; have hka := Src.ka HS.out hkb (Kp.refl _ _); replace HF := Lib.hid (Blk.kp2 hka hkb (by omega) (by omega) HF.out); replace HR := Lib.hid (Blk.kp2 hka hkb (by omega) (by omega) HR.out); replace HS := Lib.hid (Src.kpg hkb (by omega) HS.out); replace HK := Lib.hid (Kp.own hkb (by omega) HK.out); replace HQ := Lib.hid hBS; have hsS := hkb.size_; clear hka hkb hBS; have p0 : wS.cell? ⟨w1.heap.size, 0, none⟩ = some (.int .i64 C1.dg) := HF.out.cell _; have p1 : wS.cell? ⟨w1.heap.size, 1, none⟩ = some (.int .i64 C1.tn) := HF.out.cell _; have p2 : wS.cell? ⟨w1.heap.size, 2, none⟩ = some (.string C1.nm) := HF.out.cell _) | (refine wpList_store_part 28 _ _ _ 0 _ _ (Blk.kp (zk0 HK) (by first | omega | (simp; omega)) HR.out) rfl rfl rfl rfl (by rfl) (by kernel_rfl) (by simp [go_sem, Value.cells, Value.oneCell']) (by simp [go_sem, Value.cells]) ?_; intro wS hBS hkb; simp [go_sem, Value.cells, setL] at hBS; have hka := zka HK hkb; have hlSo := HS.out.lt; (try replace HQ := zb hka hkb HQ); (try replace HS := Lib.hid (Src.kpg2 HS.out (by repeat (with_reducible first | exact Below.refl _ _ | refine Bel.alloc ?_ _ | refine Below.drew ?_ | refine Bel.drewN ?_ _)) hkb (by first | omega | (simp; omega)))); replace HR := Lib.hid hBS; replace HK := Lib.hid (Kp.own hkb (by first | omega | (simp; omega)) (Kp.trans HK.out hka)); have hszS := hkb.size_; have hsyS := hka.size_; (try simp only [World.size_alloc, World.size_drew, World.heap_drewN, World.size_setCell] at hszS hsyS); clear hBS hka hkb hlSo; have hlSS := HS.out.lt))
    have hsw : q ≠ w.heap.size := by omega
    have hO : Own wS w.heap.size 2 (.slice (some ⟨q, 0, none⟩) (C1.zs.set 0 x4).length c3) (C1.zs.set 0 x4) := by
      refine Own.of_cells HQ.out (by rw [Array.size_setIfInBounds]; exact HC.out.1) ?_ (by omega) (by rw [List.length_set]; exact hc3) hm3
      rw [Array.toList_setIfInBounds, List.length_set, List.take_set, HC.out.2, List.map_set]
    rw [List.length_set] at hO
    exact bodyPost_ret (results_blk HR.out Tryz.underlying28 (by kernel_rfl) rfl rfl) rfl ⟨{ C1 with zs := C1.zs.set 0 x4 }, q, c3, by simp, by simp; omega, by (show C1.nm.size ≤ 27); omega, by simpa using hO, HS.out, HK.out⟩
  by_cases h3 : x2 = 3
  · have p0 : w2.cell? ⟨w1.heap.size, 0, none⟩ = some (.int .i64 C1.dg) := by rw [HF.out.cell]; rfl
    have p1 : w2.cell? ⟨w1.heap.size, 1, none⟩ = some (.int .i64 C1.tn) := by rw [HF.out.cell]; rfl
    clear HO1
    have HN := Lib.hid (Blk.new w2 2 #[.int .i64 1])
    replace HR := Lib.hid (Blk.alloc (.cells #[.int .i64 1] 2) HR.out)
    replace HS := Lib.hid (Src.alloc (.cells #[.int .i64 1] 2) HS.out)
    replace HK := Lib.hid (Kp.alloc (.cells #[.int .i64 1] 2) HK.out)
    replace HN := Lib.hid (Own.of_blk (zs := [1]) (B := w.heap.size) HN.out (by omega) (by unfold maxLen; simp))
    go_wp2_with (first | (refine wpList_store_part 28 _ _ _ 0 (.agg #[.int .i64 C1.dg, .int .i64 C1.tn, .string ⟨#[65]⟩, .slice (some ⟨w2.heap.size, 0, none⟩) 1 1]) #[.int .i64 C1.dg, .int .i64 C1.tn, .string ⟨#[65]⟩, .slice (some ⟨w2.heap.size, 0, none⟩) 1 1] (Blk.kp (zk0 HK) (by first | omega | (simp; omega)) HR.out) rfl rfl rfl rfl (by rfl) (by kernel_rfl) (by simp [Value.oneCell']) (by simp) ?_; intro wS hBS hkb; simp only [setL, List.setIfInBounds_toArray, List.set_cons_zero, List.set_cons_succ] at hBS; have hka := zka HK hkb; have hlSo := HS.out.lt; (try replace HN := zo hka hkb HN); (try replace HS := Lib.hid (Src.kpg2 HS.out (by repeat (with_reducible first | exact Below.refl _ _ | refine Bel.alloc ?_ _ | refine Below.drew ?_ | refine Bel.drewN ?_ _)) hkb (by first | omega | (simp; omega)))); replace HR := Lib.hid hBS; replace HK := Lib.hid (Kp.own hkb (by first | omega | (simp; omega)) (Kp.trans HK.out hka)); have hszS := hkb.size_; have hsyS := hka.size_; (try simp only [World.size_alloc, World.size_drew, World.heap_drewN, World.size_setCell] at hszS hsyS); clear hBS hka hkb hlSo; have hlSS := HS.out.lt))
    exact bodyPost_ret (results_blk HR.out Tryz.underlying28 (by kernel_rfl) rfl rfl) rfl ⟨⟨C1.dg, C1.tn, ⟨#[65]⟩, [1], 0, 0, 0⟩, w2.heap.size, 1, rfl, by simp, by simp [ByteArray.size], HN.out, HS.out, HK.out⟩
  go_wp2_with (first | (refine wpList_load_blkG 28 _ _ (Blk.kp (zk0 HK) (by first | omega | (simp; omega)) HF.out) Tryz.underlying28 (by kernel_rfl) rfl rfl (by rfl) ?_) | (refine wpList_store_part 28 _ _ _ 0 _ _ (Blk.kp (zk0 HK) (by first | omega | (simp; omega)) HR.out) rfl rfl rfl rfl (by rfl) (by kernel_rfl) (by simp [go_sem, Value.cells, Value.oneCell']) (by simp [go_sem, Value.cells]) ?_; intro wS hBS hkb; simp [go_sem, Value.cells, setL] at hBS; have hka := zka HK hkb; have hlSo := HS.out.lt; (try replace HF := zb hka hkb HF); (try replace HO1 := zo hka hkb HO1); (try replace HS := Lib.hid (Src.kpg2 HS.out (by repeat (with_reducible first | exact Below.refl _ _ | refine Bel.alloc ?_ _ | refine Below.drew ?_ | refine Bel.drewN ?_ _)) hkb (by first | omega | (simp; omega)))); replace HR := Lib.hid hBS; replace HK := Lib.hid (Kp.own hkb (by first | omega | (simp; omega)) (Kp.trans HK.out hka)); have hszS := hkb.size_; have hsyS := hka.size_; (try simp only [World.size_alloc, World.size_drew, World.heap_drewN, World.size_setCell] at hszS hsyS); clear hBS hka hkb hlSo; have hlSS := HS.out.lt))
  exact bodyPost_ret (results_blk HR.out Tryz.underlying28 (by kernel_rfl) rfl rfl) rfl ⟨C1, g1, c1, rfl, by omega, by omega, Own.ge_mono HO1.out (by simp), HS.out, HK.out⟩
end Go.Proofs.YtpmcgicopogbhaaGreat
