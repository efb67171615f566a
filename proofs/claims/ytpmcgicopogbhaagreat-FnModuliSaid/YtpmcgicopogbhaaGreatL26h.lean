/- Chapter 26: the greatest and the least of a list; the heights of a layout. Conditions: as stated at each contract. -/
import Derived.Test.YtpmcgicopogbhaaGreatProg
import Derived.Test.YtpmcgicopogbhaaGreatBase
import Derived.Test.YtpmcgicopogbhaaGreatRw
import Derived.Test.YtpmcgicopogbhaaGreatL01
import Derived.Test.YtpmcgicopogbhaaGreatCp
import Derived.Test.YtpmcgicopogbhaaGreatL18
import Derived.Test.YtpmcgicopogbhaaGreatL23
import Derived.Test.YtpmcgicopogbhaaGreatL03
import Derived.Test.YtpmcgicopogbhaaGreatL04
import Derived.Test.YtpmcgicopogbhaaGreatL23d
import Derived.Test.YtpmcgicopogbhaaGreatL23e
import Derived.Test.YtpmcgicopogbhaaGreatL24
import Derived.Test.YtpmcgicopogbhaaGreatL24b
import Derived.Test.YtpmcgicopogbhaaGreatL24c
import Derived.Test.YtpmcgicopogbhaaGreatL24f
import Derived.Test.YtpmcgicopogbhaaGreatL24g
import Derived.Test.YtpmcgicopogbhaaGreatL24r
import Derived.Test.YtpmcgicopogbhaaGreatL23g
import Derived.Test.YtpmcgicopogbhaaGreatL23h
import Derived.Test.YtpmcgicopogbhaaGreatL26a
import Derived.Test.YtpmcgicopogbhaaGreatL26b
import Derived.WalkKit
import Derived.WalkSpells
import Derived.WalkLawsBesides
import Derived.Lib.Hide
import Derived.Deep.QuietTactic
import Derived.BigQuiet
import Derived.Deep.Draws
import Derived.Deep.RegionHeld3
import Derived.Deep.AppendLies
namespace Go.Proofs.YtpmcgicopogbhaaGreat
open Go.RowKit
set_option linter.unusedVariables false
set_option linter.unusedSimpArgs false
def mxP (l : List Int) : Nat → Int
  | 0 => l.getD 0 0
  | k + 1 => mx (mxP l k) (l.getD k 0)
def mnP (l : List Int) : Nat → Int
  | 0 => l.getD 0 0
  | k + 1 => mn (mnP l k) (l.getD k 0)
theorem mxP_1 (l : List Int) : mxP l 1 = l.getD 0 0 := by simp [mxP, mx]
theorem mnP_1 (l : List Int) : mnP l 1 = l.getD 0 0 := by simp [mnP, mn]
theorem mxP_bd {l : List Int} {a b : Int} (h : ∀ x ∈ l, a ≤ x ∧ x ≤ b) (h0 : 0 < l.length) (k : Nat) (hk : k ≤ l.length) : a ≤ mxP l k ∧ mxP l k ≤ b := by
  have hg : ∀ j, j < l.length → a ≤ l.getD j 0 ∧ l.getD j 0 ≤ b := fun j hj => by
    have := h _ (List.getElem_mem hj)
    rw [List.getD_eq_getElem?_getD, List.getElem?_eq_getElem hj]; exact this
  induction k with
  | zero => exact hg 0 h0
  | succ k ih =>
    have h1 := ih (by omega)
    have h2 := hg k (by omega)
    unfold mxP mx
    split <;> omega
theorem mnP_bd {l : List Int} {a b : Int} (h : ∀ x ∈ l, a ≤ x ∧ x ≤ b) (h0 : 0 < l.length) (k : Nat) (hk : k ≤ l.length) : a ≤ mnP l k ∧ mnP l k ≤ b := by
  have hg : ∀ j, j < l.length → a ≤ l.getD j 0 ∧ l.getD j 0 ≤ b := fun j hj => by
    have := h _ (List.getElem_mem hj)
    rw [List.getD_eq_getElem?_getD, List.getElem?_eq_getElem hj]; exact this
  induction k with
  | zero => exact hg 0 h0
  | succ k ih =>
    have h1 := ih (by omega)
    have h2 := hg k (by omega)
    unfold mnP mn
    split <;> omega
set_option maxRecDepth 50000 in
theorem slicesMax_c (A : Option Addr) (c : Nat) (zs : List Int) (h0 : 0 < zs.length) (hn : zs.length ≤ 1048576) (w : World) (hA : Ints w A zs) :
    Calls Tryz.prog 125 #[.slice A zs.length c] w fun e w' => e = .returned (.int .i64 (mxP zs zs.length)) ∧ Below w.heap.size w w' := by
  have HZ := Lib.hid (show mxP zs 1 = zs[0] by rw [mxP_1, List.getD_eq_getElem?_getD, List.getElem?_eq_getElem h0]; rfl)
  obtain ⟨b, o, e, hbb, hc⟩ := hA.at_ 0 h0
  rw [Nat.add_zero] at hc
  generalize zs[0] = z0 at HZ hc
  have HI := Lib.hid hA
  clear hA
  subst e
  go_enter Tryz.func125, Tryz.ntmps125
  go_wp2
  go_loopw [3, 4] (fun m i wr => ∃ k : Nat, 1 ≤ k ∧ k ≤ zs.length ∧ i = .int .i64 k ∧ m = .int .i64 (mxP zs k) ∧ Below w.heap.size w wr) (fun _ i _ => zs.length - (intOf i).toNat)
  case atStart => exact ⟨1, by omega, h0, rfl, by rw [HZ.out], by repeat (with_reducible first | exact Below.refl _ _ | assumption | refine Bel.alloc ?_ _ | refine Bel.step (by assumption) ?_ | refine Below.drew ?_ | refine Bel.drewN ?_ _ | refine Below.setCell ?_ (by first | exact Nat.le_refl _ | omega | (simp; done) | (simp; omega)) _)⟩
  case round =>
    obtain ⟨k, hk1, hk, rfl, rfl, hbel⟩ := hrel
    by_cases hlt : k < zs.length
    · obtain ⟨b', o', e, hbb', hck⟩ := (Ints.step hbel HI.out).at_ k hlt
      cases e
      have HS := Lib.hid (show mxP zs (k + 1) = mx (mxP zs k) zs[k] by rw [show zs[k] = zs.getD k 0 by rw [List.getD_eq_getElem?_getD, List.getElem?_eq_getElem hlt]; rfl]; rfl)
      generalize zs[k] = z at HS hck
      generalize mxP zs k = m at HS ⊢
      go_wp2
      go_roundw
      case rel => exact ⟨k + 1, by omega, by omega, by go_num, by rw [HS.out]; congr 1; unfold mx; repeat' split; all_goals omega, by repeat (with_reducible first | exact Below.refl _ _ | assumption | refine Bel.alloc ?_ _ | refine Bel.step (by assumption) ?_ | refine Below.drew ?_ | refine Bel.drewN ?_ _ | refine Below.setCell ?_ (by first | exact Nat.le_refl _ | omega | (simp; done) | (simp; omega)) _)⟩
      case measure => simp [intOf]; omega
    · obtain rfl : k = zs.length := by omega
      go_wp2
      go_ret
      exact ⟨rfl, by repeat (with_reducible first | exact Below.refl _ _ | assumption | refine Bel.alloc ?_ _ | refine Bel.step (by assumption) ?_ | refine Below.drew ?_ | refine Bel.drewN ?_ _ | refine Below.setCell ?_ (by first | exact Nat.le_refl _ | omega | (simp; done) | (simp; omega)) _)⟩
set_option maxRecDepth 50000 in
theorem slicesMin_c (A : Option Addr) (c : Nat) (zs : List Int) (h0 : 0 < zs.length) (hn : zs.length ≤ 1048576) (w : World) (hA : Ints w A zs) :
    Calls Tryz.prog 126 #[.slice A zs.length c] w fun e w' => e = .returned (.int .i64 (mnP zs zs.length)) ∧ Below w.heap.size w w' := by
  have HZ := Lib.hid (show mnP zs 1 = zs[0] by rw [mnP_1, List.getD_eq_getElem?_getD, List.getElem?_eq_getElem h0]; rfl)
  obtain ⟨b, o, e, hbb, hc⟩ := hA.at_ 0 h0
  rw [Nat.add_zero] at hc
  generalize zs[0] = z0 at HZ hc
  have HI := Lib.hid hA
  clear hA
  subst e
  go_enter Tryz.func126, Tryz.ntmps126
  go_wp2
  go_loopw [3, 4] (fun m i wr => ∃ k : Nat, 1 ≤ k ∧ k ≤ zs.length ∧ i = .int .i64 k ∧ m = .int .i64 (mnP zs k) ∧ Below w.heap.size w wr) (fun _ i _ => zs.length - (intOf i).toNat)
  case atStart => exact ⟨1, by omega, h0, rfl, by rw [HZ.out], by repeat (with_reducible first | exact Below.refl _ _ | assumption | refine Bel.alloc ?_ _ | refine Bel.step (by assumption) ?_ | refine Below.drew ?_ | refine Bel.drewN ?_ _ | refine Below.setCell ?_ (by first | exact Nat.le_refl _ | omega | (simp; done) | (simp; omega)) _)⟩
  case round =>
    obtain ⟨k, hk1, hk, rfl, rfl, hbel⟩ := hrel
    by_cases hlt : k < zs.length
    · obtain ⟨b', o', e, hbb', hck⟩ := (Ints.step hbel HI.out).at_ k hlt
      cases e
      have HS := Lib.hid (show mnP zs (k + 1) = mn (mnP zs k) zs[k] by rw [show zs[k] = zs.getD k 0 by rw [List.getD_eq_getElem?_getD, List.getElem?_eq_getElem hlt]; rfl]; rfl)
      generalize zs[k] = z at HS hck
      generalize mnP zs k = m at HS ⊢
      go_wp2
      go_roundw
      case rel => exact ⟨k + 1, by omega, by omega, by go_num, by rw [HS.out]; congr 1; unfold mn; repeat' split; all_goals omega, by repeat (with_reducible first | exact Below.refl _ _ | assumption | refine Bel.alloc ?_ _ | refine Bel.step (by assumption) ?_ | refine Below.drew ?_ | refine Bel.drewN ?_ _ | refine Below.setCell ?_ (by first | exact Nat.le_refl _ | omega | (simp; done) | (simp; omega)) _)⟩
      case measure => simp [intOf]; omega
    · obtain rfl : k = zs.length := by omega
      go_wp2
      go_ret
      exact ⟨rfl, by repeat (with_reducible first | exact Below.refl _ _ | assumption | refine Bel.alloc ?_ _ | refine Bel.step (by assumption) ?_ | refine Below.drew ?_ | refine Bel.drewN ?_ _ | refine Below.setCell ?_ (by first | exact Nat.le_refl _ | omega | (simp; done) | (simp; omega)) _)⟩
open Go.RowKit
set_option linter.unusedVariables false
set_option linter.unusedSimpArgs false
theorem Prs.grown {w w' : World} {g o : Nat} {zs : List (Int × Int)} {row : Option Nat} (hg : w.grownBy w' row) (hs : w.heap.size ≤ w'.heap.size) (hne : row ≠ some g) (h : Prs w (some ⟨g, o, none⟩) zs) : Prs w' (some ⟨g, o, none⟩) zs := fun hn => by
  obtain ⟨b, o', e, hlt, hc⟩ := h hn
  cases e
  exact ⟨g, o, rfl, Nat.lt_of_lt_of_le hlt hs, fun i hi => ⟨(hg.cell_far ⟨g, o + i * 2, none⟩ hlt (fun e => hne e.symm)).trans (hc i hi).1, (hg.cell_far ⟨g, o + i * 2 + 1, none⟩ hlt (fun e => hne e.symm)).trans (hc i hi).2⟩⟩
/-- An append of integers out of a block. -/
theorem wpList_appNL {P : Program} {w : World} {ops : Array Oper} {rest : List Oper} {o : Oper} {a : Act} {Q : Exit → Act → World → Prop} (hgd : o.guard = none) (s x : Operand) (t : TypeId)
    (ho : o.op = .call { callee := .builtin .append, args := #[s, x], argTypes := #[t, t] })
    (B : Nat) (e : TypeId) (ht : P.underlying t = some (.slice e)) (hi : (P.info? e).map (fun i => (i.zero, i.size, i.bytes)) = some (some (.int .i64 0), 1, 8))
    (v : Value) (zs : List Int) (hs : a.eval s = v) (hown : Own w B e v zs) (g m c : Nat) (cs : Array Value) (tt : TypeId) (hB : Blk w g tt cs)
    (hx : a.eval x = .slice (some ⟨g, 0, none⟩) m c) (ys : List Int) (hcs : cs.toList = ys.map (Value.int .i64)) (hm : ys.length = m) (h0 : 0 < m) (hl : zs.length + m ≤ 1000000000) (hbase : B ≤ w.heap.size)
    (h : ∀ v' w', Own w' B e v' (zs ++ ys) → w.grownBy w' v.ownBlock → (∀ k, v'.ownBlock = some k → v.ownBlock = some k ∨ k = w.heap.size) → wpList P ops Q rest (a.put o.dst v') w') : wpList P ops Q (o :: rest) a w := by
  obtain ⟨i0, hi0, hz0, hz1, hz2⟩ := info_parts hi
  refine wpList_append_lies w hgd s x t ho B e i0 _ 1 8 ht hi0 hz0 hz1 hz2 rfl (by omega) v zs.length _ hs hown ⟨g, 0, none⟩ m c (ys.map (Value.int .i64)) hx (by simp [hm]) ?_ ?_ h0 (by unfold maxLen; omega) (by omega) hbase _ rfl ?_
  · intro j u hu
    rw [← hcs] at hu
    exact World.news_of_block hB j u hu
  · intro u hu
    obtain ⟨y, _, rfl⟩ := List.mem_map.1 hu
    rfl
  · intro g' cap w' h1 h2 h3 _
    refine h _ w' ?_ h2 (fun k hk => by injection hk with hk; subst hk; exact h3)
    unfold Own
    rw [List.length_append, List.map_append, hm]
    exact h1
/-- An append of a row of pairs. -/
theorem wpList_appNP {P : Program} {w : World} {ops : Array Oper} {rest : List Oper} {o : Oper} {a : Act} {Q : Exit → Act → World → Prop} (hgd : o.guard = none) (s x : Operand) (t : TypeId)
    (ho : o.op = .call { callee := .builtin .append, args := #[s, x], argTypes := #[t, t] })
    (B : Nat) (e : TypeId) (z : Value) (ht : P.underlying t = some (.slice e)) (hi : (P.info? e).map (fun i => (i.zero, i.size, i.bytes)) = some (some z, 2, 16)) (hzs : z.cells.size = 2)
    (v : Value) (zs : List (Int × Int)) (hs : a.eval s = v) (hown : OwnP w B e v zs) (A : Option Addr) (c : Nat) (ps : List (Int × Int)) (hP : Prs w A ps)
    (hx : a.eval x = .slice A ps.length c) (h0 : 0 < ps.length) (hl : zs.length + ps.length ≤ 1000000) (hbase : B ≤ w.heap.size)
    (h : ∀ v' w', OwnP w' B e v' (zs ++ ps) → w.grownBy w' v.ownBlock → (∀ k, v'.ownBlock = some k → v.ownBlock = some k ∨ k = w.heap.size) → wpList P ops Q rest (a.put o.dst v') w') : wpList P ops Q (o :: rest) a w := by
  obtain ⟨i0, hi0, hz0, hz1, hz2⟩ := info_parts hi
  obtain ⟨g, q, rfl, hg, hc⟩ := hP h0
  refine wpList_append_lies w hgd s x t ho B e i0 _ 2 16 ht hi0 hz0 hz1 hz2 hzs (by omega) v zs.length _ hs hown ⟨g, q, none⟩ ps.length c (pcells ps) hx (pcells_len ps) ?_ ?_ h0 (by unfold maxLen; omega) (by omega) hbase _ rfl ?_
  · intro j u hu
    have hj : j < ps.length * 2 := by
      rw [← pcells_len]
      rcases Nat.lt_or_ge j (pcells ps).length with h | h
      · exact h
      · rw [List.getElem?_eq_none h] at hu; cases hu
    have hadd : (⟨g, q, none⟩ : Addr).add j = ⟨g, q + j, none⟩ := by unfold Addr.add; split <;> simp_all
    rw [hadd]
    have hi2 : j / 2 < ps.length := by omega
    have h1 := pcells_at ps (j / 2) hi2
    have h2 := hc (j / 2) hi2
    rcases Nat.mod_two_eq_zero_or_one j with hr | hr
    · have e1 : j / 2 * 2 = j := by omega
      rw [e1] at h1 h2
      rw [← hu, h1.1]; exact h2.1
    · have e1 : j / 2 * 2 + 1 = j := by omega
      have e2 : q + j / 2 * 2 + 1 = q + j := by omega
      rw [e1] at h1
      rw [e2] at h2
      rw [← hu, h1.2]; exact h2.2
  · intro u hu
    obtain ⟨p, _, hp⟩ := List.mem_flatMap.1 hu
    rcases List.mem_cons.1 hp with rfl | hp
    · rfl
    · rcases List.mem_cons.1 hp with rfl | hp
      · rfl
      · cases hp
  · intro g' cap w' h1 h2 h3 _
    refine h _ w' ?_ h2 (fun k hk => by injection hk with hk; subst hk; exact h3)
    unfold OwnP
    rw [List.length_append, show pcells (zs ++ ps) = pcells zs ++ pcells ps by simp [pcells, List.flatMap_append]]
    exact h1
/-- The heights of the lines between one figure and figures. -/
def hR (C : Ch) (u : Int × Int) (vs : List (Int × Int)) (l : Nat) : List Int := (vs.take l).flatMap fun v => [lhL C u.1 u.2 v.1 v.2, lhH C u.1 u.2 v.1 v.2]
def hAl (C : Ch) (us vs : List (Int × Int)) (k : Nat) : List Int := (us.take k).flatMap fun u => hR C u vs vs.length
theorem hR_step {C : Ch} {u : Int × Int} {vs : List (Int × Int)} {l : Nat} (hl : l < vs.length) : hR C u vs (l + 1) = hR C u vs l ++ [lhL C u.1 u.2 vs[l].1 vs[l].2, lhH C u.1 u.2 vs[l].1 vs[l].2] := by
  unfold hR
  rw [List.take_succ_eq_append_getElem hl, List.flatMap_append]
  simp
theorem hAl_step {C : Ch} {us vs : List (Int × Int)} {k : Nat} (hk : k < us.length) : hAl C us vs (k + 1) = hAl C us vs k ++ hR C us[k] vs vs.length := by
  unfold hAl
  rw [List.take_succ_eq_append_getElem hk, List.flatMap_append]
  simp
theorem hR_len (C : Ch) (u : Int × Int) (vs : List (Int × Int)) (l : Nat) : (hR C u vs l).length ≤ 2 * vs.length := by
  have h1 : ∀ xs : List (Int × Int), (xs.flatMap fun v => [lhL C u.1 u.2 v.1 v.2, lhH C u.1 u.2 v.1 v.2]).length = 2 * xs.length := by
    intro xs
    induction xs with
    | nil => rfl
    | cons x xs ih => simp [List.flatMap_cons, ih]; omega
  unfold hR
  rw [h1, List.length_take]
  omega
theorem hAl_len (C : Ch) (us vs : List (Int × Int)) (k : Nat) (hk : k ≤ us.length) : (hAl C us vs k).length ≤ k * (2 * vs.length) := by
  induction k with
  | zero => simp [hAl]
  | succ k ih =>
    rw [hAl_step (by omega), List.length_append, Nat.succ_mul]
    have := hR_len C us[k] vs vs.length
    have := ih (by omega)
    omega
/-- The heights of the points of both scales. -/
def hY (C : Ch) (us vs : List (Int × Int)) : List Int := (us.map (ptOf C 0) ++ vs.map (ptOf C 1)).map (·.2)
def hL (C : Ch) (us vs : List (Int × Int)) : List Int := hY C us vs ++ hAl C us vs us.length
def htC (C : Ch) (us vs : List (Int × Int)) : Int := if us.all (ptOk C 0) = true ∧ vs.all (ptOk C 1) = true then wC C us vs else 3
def htV (C : Ch) (us vs : List (Int × Int)) : Int := if htC C us vs = 0 then mxP (hL C us vs) (hL C us vs).length - mnP (hL C us vs) (hL C us vs).length else 0
theorem ht_3 {C : Ch} {us vs : List (Int × Int)} (h : htC C us vs = 3) : htV C us vs = 0 := by simp [htV, h]
theorem ht_p0 {C : Ch} {us vs : List (Int × Int)} (h : us.all (ptOk C 0) = false) : htC C us vs = 3 ∧ htV C us vs = 0 := by
  have : htC C us vs = 3 := by simp [htC, h]
  exact ⟨this, ht_3 this⟩
theorem ht_p1 {C : Ch} {us vs : List (Int × Int)} (h : vs.all (ptOk C 1) = false) : htC C us vs = 3 ∧ htV C us vs = 0 := by
  have : htC C us vs = 3 := by simp [htC, h]
  exact ⟨this, ht_3 this⟩
theorem ht_w {C : Ch} {us vs : List (Int × Int)} (h : wOk C us vs = false) : htC C us vs = 3 ∧ htV C us vs = 0 := by
  have : htC C us vs = 3 := by unfold htC wC; split <;> simp [h]
  exact ⟨this, ht_3 this⟩
theorem ht_0 {C : Ch} {us vs : List (Int × Int)} (h0 : us.all (ptOk C 0) = true) (h1 : vs.all (ptOk C 1) = true) (h : wOk C us vs = true) : htC C us vs = 0 ∧ htV C us vs = mxP (hL C us vs) (hL C us vs).length - mnP (hL C us vs) (hL C us vs).length := by
  have : htC C us vs = 0 := by unfold htC wC; rw [if_pos ⟨h0, h1⟩, if_pos h]
  exact ⟨this, by simp [htV, this]⟩
theorem hY_bd {C : Ch} {us vs : List (Int × Int)} (h0 : us.all (ptOk C 0) = true) (h1 : vs.all (ptOk C 1) = true) : ∀ x ∈ hY C us vs, -1000000 ≤ x ∧ x ≤ 1000000 := by
  have hb : ∀ sc dg tn, plC C sc dg tn = 0 → -1000000 ≤ ppY C sc dg tn ∧ ppY C sc dg tn ≤ 1000000 := by
    intro sc dg tn h
    obtain ⟨⟨b1, b2⟩, b3, b4⟩ := pl_bd h
    simp only [ppY, h, if_true]
    exact Fl_bd _ _ _ (by omega) (by omega)
  intro x hx
  unfold hY at hx
  obtain ⟨p, hp, rfl⟩ := List.mem_map.1 hx
  rcases List.mem_append.1 hp with hp | hp
  · obtain ⟨q, hq, rfl⟩ := List.mem_map.1 hp
    have := hb 0 q.1 q.2 (by have := List.all_eq_true.1 h0 q hq; simpa [ptOk] using this)
    simp only [ptOf]; exact this
  · obtain ⟨q, hq, rfl⟩ := List.mem_map.1 hp
    have := hb 1 q.1 q.2 (by have := List.all_eq_true.1 h1 q hq; simpa [ptOk] using this)
    simp only [ptOf]; exact this
theorem hL_bd {C : Ch} {us vs : List (Int × Int)} (hC : okCh C = true) (h0 : us.all (ptOk C 0) = true) (h1 : vs.all (ptOk C 1) = true) (h : wOk C us vs = true) : ∀ x ∈ hL C us vs, -1000000 ≤ x ∧ x ≤ 1000000 := by
  intro x hx
  unfold hL at hx
  rcases List.mem_append.1 hx with hx | hx
  · exact hY_bd h0 h1 x hx
  · unfold hAl hR at hx
    obtain ⟨u, hu, hx⟩ := List.mem_flatMap.1 hx
    obtain ⟨v, hv, hx⟩ := List.mem_flatMap.1 hx
    have hu' := List.mem_of_mem_take hu
    have hv' := List.mem_of_mem_take hv
    have hc : lhC C u.1 u.2 v.1 v.2 = 0 := by
      have h2 := List.all_eq_true.1 h u hu'
      have h3 := List.all_eq_true.1 h2 v hv'
      simpa using h3
    have := lh_bd hC hc
    simp only [List.mem_cons, List.not_mem_nil, or_false] at hx
    rcases hx with hx | hx
    · rw [hx]; omega
    · rw [hx]; omega
end Go.Proofs.YtpmcgicopogbhaaGreat
