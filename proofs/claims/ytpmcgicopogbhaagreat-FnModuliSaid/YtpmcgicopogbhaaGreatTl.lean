/- A region that draws its order: operations that read, in whatever order, ahead of a tail whose order is forced, where some operations that look at no memory have been taken before. No conditions. -/
import Derived.Test.YtpmcgicopogbhaaGreatProg
import Derived.Test.YtpmcgicopogbhaaGreatBase
import Derived.WalkKit
import Derived.StillTailTactics
namespace Go.Proofs.YtpmcgicopogbhaaGreat
open Go.RowKit
set_option linter.unusedVariables false
section
variable {P : Program} {ops : Array Oper} {md : Region.Mode} {w : World}
/-- The tail of these places comes up in this order alone. -/
def seqT (md : Region.Mode) (ops : Array Oper) : List Nat → Array Bool → Bool
  | [], listed => (Region.ready md ops listed).isEmpty
  | k :: T, listed => decide (Region.ready md ops listed = [k]) && seqT md ops T (listed.setIfInBounds k true)
theorem wpAny_of_seqT {Q' : Exit → Act → World → Prop} : ∀ (T : List Nat) (l : List Oper) (listed : Array Bool) (a : Act) (w : World), T.length = l.length → (∀ (j k : Nat), T[j]? = some k → ops[k]? = l[j]?) →
    seqT md ops T listed = true → wpList P ops Q' l a w → wpAny P md ops Q' T.length listed a w
  | [], [], listed, a, w, _, _, hB, h => ⟨by simpa [seqT] using hB, h⟩
  | [], _ :: _, _, _, _, hl, _, _, _ => by simp at hl
  | _ :: _, [], _, _, _, hl, _, _, _ => by simp at hl
  | k :: T, o :: l, listed, a, w, hl, ho, hB, h => by
    have h0 : ops[k]? = some o := ho 0 k rfl
    simp only [seqT, Bool.and_eq_true, decide_eq_true_eq] at hB
    refine ⟨fun h1 => (by rw [hB.1] at h1; cases h1), fun i hi => ?_⟩
    rw [hB.1] at hi
    obtain rfl : i = k := by simpa using hi
    have hw : wpOp P ops Q' i (wpList P ops Q' l) a w := by unfold wpOp; simp only [h0]; exact h
    exact wpOp_mono (fun a' w' h' => wpAny_of_seqT T l _ a' w' (by simpa using hl) (fun j k' hk => ho (j + 1) k' hk) hB.2 h') hw
/-- Each place from n on that has not been taken before waits for one before it, from n on, that has not. -/
def chainX (md : Region.Mode) (ops : Array Oper) (n : Nat) (l0 : Array Bool) : Bool :=
  (List.range ops.size).all fun t => decide (t ≤ n) || l0.getD t true || (List.range t).any fun p => decide (n ≤ p) && !(l0.getD p true) && Region.waitsFor md ops t p
structure HeadX (md : Region.Mode) (ops : Array Oper) (n : Nat) (l0 listed : Array Bool) : Prop where
  size : listed.size = ops.size
  closed : ∀ j oj, ops[j]? = some oj → listed.getD j false = true → ∀ e ∈ oj.after, Region.binds md e = true → listed.getD e.on false = true
  tail : ∀ t, n ≤ t → t < ops.size → l0.getD t true = false → listed.getD t true = false
  kept : ∀ t, n ≤ t → t < ops.size → l0.getD t true = true → listed.getD t true = true
theorem HeadX.set {n i : Nat} {l0 listed : Array Bool} (inv : HeadX md ops n l0 listed) (hi : i ∈ Region.ready md ops listed) (hin : i < n) : HeadX md ops n l0 (listed.setIfInBounds i true) := by
  obtain ⟨_, oi, hoi, hall⟩ := mem_ready.1 hi
  refine ⟨by simp [inv.size], fun j oj hj hl e he hb => ?_, fun t ht ht' h0 => by rw [getD_set_ne true (by omega)]; exact inv.tail t ht ht' h0, fun t ht ht' h0 => by rw [getD_set_ne true (by omega)]; exact inv.kept t ht ht' h0⟩
  by_cases hij : i = j
  · subst hij
    have : oj = oi := Option.some.inj (hj.symm.trans hoi)
    subst this
    exact getD_set_true (hall e he hb)
  · rw [getD_set_ne false hij] at hl
    exact getD_set_true (inv.closed j oj hj hl e he hb)
theorem waits_X {n : Nat} {l0 listed : Array Bool} (hs : Region.sinkB md ops n = true) (hc : chainX md ops n l0 = true) (hn : n < ops.size) (hn0 : l0.getD n true = false) (inv : HeadX md ops n l0 listed) :
    ∀ (d i : Nat), n - i = d → i < n → listed.getD i true = false → ∀ t, n ≤ t → t ∉ Region.ready md ops listed := by
  intro d
  induction d using Nat.strongRecOn with
  | _ d ih =>
    intro i hd hi hun t ht hr
    obtain ⟨hut, ot, hot, hall⟩ := mem_ready.1 hr
    have htlt : t < ops.size := (Array.getElem?_eq_some_iff.1 hot).1
    by_cases htn : t = n
    · subst htn
      obtain ⟨j, hj, hj2⟩ := List.any_eq_true.1 (List.all_eq_true.1 hs i (List.mem_range.2 hi))
      simp only [Bool.and_eq_true, decide_eq_true_eq] at hj2
      obtain ⟨oj, hoj, e, he, hb, hon⟩ := Region.waitsFor_spec hj2.2
      have hjle : j ≤ t := by have := List.mem_range.1 hj; omega
      by_cases hjt : j = t
      · subst hjt
        have : oj = ot := Option.some.inj (hoj.symm.trans hot)
        subst this
        have h2 := hall e he hb
        rw [hon, getD_both hun] at h2
        cases h2
      · cases hl : listed.getD j false with
        | true =>
          have h2 := inv.closed j oj hoj hl e he hb
          rw [hon, getD_both hun] at h2
          cases h2
        | false =>
          have hjs : j < listed.size := by rw [inv.size]; omega
          exact ih (t - j) (by omega) j rfl (by omega) (getD_in hjs hl) t (Nat.le_refl _) hr
    · have h1 := List.all_eq_true.1 hc t (List.mem_range.2 htlt)
      simp only [Bool.or_eq_true, decide_eq_true_eq] at h1
      rcases h1 with (h1 | h1) | h1
      · omega
      · have := inv.kept t ht htlt h1
        rw [this] at hut; cases hut
      · obtain ⟨p, hp, hp2⟩ := List.any_eq_true.1 h1
        simp only [Bool.and_eq_true, decide_eq_true_eq, Bool.not_eq_true'] at hp2
        have hpt := List.mem_range.1 hp
        obtain ⟨o', ho', e, he, hb, hon⟩ := Region.waitsFor_spec hp2.2
        have : o' = ot := Option.some.inj (ho'.symm.trans hot)
        subst this
        have h2 := hall e he hb
        rw [hon, getD_both (inv.tail p hp2.1.1 (by omega) hp2.1.2)] at h2
        cases h2
theorem first_X {n i : Nat} {l0 : Array Bool} {oi : Oper} {v : Value} {L : Array Bool → Act → Prop} (hi : ops[i]? = some oi) (hsel : ∀ (j : Nat) (o : Oper) cs b, ops[j]? = some o → o.op ≠ .select cs b)
    (hs : Region.sinkB md ops n = true) (hc : chainX md ops n l0 = true) (hn : n < ops.size) (hn0 : l0.getD n true = false) (hin : i < n)
    (hdone : ∀ listed a, L listed a → ∀ j ∈ Region.ready md ops listed, n ≤ j) :
    ∀ (f : Nat) (listed : Array Bool) (a : Act), HeadX md ops n l0 listed →
      (∀ j oj, ops[j]? = some oj → j ≠ i → listed.getD j true = false → (∀ e ∈ oj.after, Region.binds md e = true → e.on ≠ i) → oi.apart ops oj = true) →
      i ∈ Region.ready md ops listed → YieldsAt P ops w oi v a →
      wpAnyL P md ops w n L f (listed.setIfInBounds i true) (a.put oi.dst v) → wpAnyL P md ops w n L (f + 1) listed a := by
  intro f
  induction f with
  | zero =>
    intro listed a inv _ hr hy H
    have hun := (mem_ready.1 hr).1
    refine ⟨fun h => (by rw [h] at hr; cases hr), fun j hj => ?_⟩
    have hjn : j < n := by
      rcases Nat.lt_or_ge j n with h | h
      · exact h
      · exact absurd hj (waits_X hs hc hn hn0 inv _ i rfl hin hun j h)
    refine ⟨hjn, ?_⟩
    by_cases hji : j = i
    · subst hji; exact hy.stOp hi H
    · have := hdone _ _ H j (ready_mono hj hji)
      omega
  | succ f ih =>
    intro listed a inv hfree hr hy H
    have hun := (mem_ready.1 hr).1
    refine ⟨fun h => (by rw [h] at hr; cases hr), fun j hj => ?_⟩
    have hjn : j < n := by
      rcases Nat.lt_or_ge j n with h | h
      · exact h
      · exact absurd hj (waits_X hs hc hn hn0 inv _ i rfl hin hun j h)
    refine ⟨hjn, ?_⟩
    by_cases hji : j = i
    · subst hji; exact hy.stOp hi H
    · have h1 := (H.2 j (ready_mono hj hji)).2
      obtain ⟨hjun, oj, hoj, hall⟩ := mem_ready.1 hj
      have hnot : ∀ e ∈ oj.after, Region.binds md e = true → e.on ≠ i := fun e he hb heq => by
        have h1 := hall e he hb
        rw [heq, getD_both hun] at h1
        cases h1
      have h2 := stOp_put hoj (hfree j oj hoj hji hjun hnot) (fun cs b => hsel i oi cs b hi) (fun cs b => hsel j oj cs b hoj) hy h1
      have hfree' : ∀ k ok, ops[k]? = some ok → k ≠ i → (listed.setIfInBounds j true).getD k true = false →
          (∀ e ∈ ok.after, Region.binds md e = true → e.on ≠ i) → oi.apart ops ok = true := fun k ok hk hki hun hno => by
        refine hfree k ok hk hki ?_ hno
        by_cases hjk : j = k
        · subst hjk; exact hjun
        · rw [getD_set_ne true hjk] at hun; exact hun
      refine stOp_mono (fun a' h3 => ih (listed.setIfInBounds j true) a' (inv.set hj hjn) hfree' (ready_mono hr (Ne.symm hji)) h3.1 ?_) h2
      rw [Array.setIfInBounds_comm _ _ hji]
      exact h3.2
def lexX (md : Region.Mode) (ops : Array Oper) (T : List Nat) : Nat → Nat → Array Bool → Bool
  | 0, k, listed => seqT md ops T listed
  | f + 1, k, listed => (Region.ready md ops listed).contains k && Region.free md ops listed k && lexX md ops T f (k + 1) (listed.setIfInBounds k true)
theorem seqT_ready {n : Nat} {T : List Nat} {listed : Array Bool} (hT : ∀ k ∈ T, n ≤ k) (h : seqT md ops T listed = true) : ∀ j ∈ Region.ready md ops listed, n ≤ j := by
  cases T with
  | nil => intro j hj; simp only [seqT, List.isEmpty_iff] at h; rw [h] at hj; cases hj
  | cons k T =>
    intro j hj
    simp only [seqT, Bool.and_eq_true, decide_eq_true_eq] at h
    rw [h.1] at hj
    obtain rfl : j = k := by simpa using hj
    exact hT _ (List.mem_cons_self ..)
theorem lex_X {n : Nat} {T : List Nat} {l0 : Array Bool} {Lq : Act → Prop} (hsel : Region.noSelect ops = true) (hs : Region.sinkB md ops n = true) (hc : chainX md ops n l0 = true) (hn : n < ops.size) (hn0 : l0.getD n true = false) (hT : ∀ k ∈ T, n ≤ k) :
    ∀ (l : List Oper) (k : Nat) (listed : Array Bool) (a : Act), (∀ j, j < l.length → l[j]? = ops[k + j]?) → k + l.length = n → HeadX md ops n l0 listed →
    lexX md ops T l.length k listed = true → wpStill P ops w Lq l a →
    wpAnyL P md ops w n (fun listed' a' => seqT md ops T listed' = true ∧ Lq a') l.length listed a
  | [], k, listed, a, _, hk, _, hB, h => ⟨by simpa [lexX] using hB, h⟩
  | o :: l, k, listed, a, hl, hk, inv, hB, h => by
    have h0 : ops[k]? = some o := by simpa using (hl 0 (by simp)).symm
    simp only [List.length_cons, lexX, Bool.and_eq_true] at hB
    obtain ⟨⟨hr, hf⟩, hB'⟩ := hB
    have hkn : k < n := by simp only [List.length_cons] at hk; omega
    have hr' : k ∈ Region.ready md ops listed := by simpa using hr
    have hst : stOp P ops w k (wpStill P ops w Lq l) a := by unfold stOp; simp only [h0]; exact h
    obtain ⟨v, hy, hK⟩ := yieldsAt_of_stOp h0 hst
    exact first_X h0 (Region.noSelect_spec hsel) hs hc hn hn0 hkn (fun listed' a' hL => seqT_ready hT hL.1) l.length listed a inv (Region.free_spec h0 hf) hr' hy
      (lex_X hsel hs hc hn hn0 hT l (k + 1) _ _ (fun j hj => by have := hl (j + 1) (by simp; omega); simpa [Nat.add_assoc, Nat.add_comm 1 j] using this) (by simp only [List.length_cons] at hk; omega) (inv.set hr' hkn) hB' hK)
theorem pick_len (l : List Oper) : ∀ (T : List Nat), (T.all fun k => decide (k < l.length)) = true → (T.filterMap fun k => l[k]?).length = T.length ∧ ∀ (j k : Nat), T[j]? = some k → l[k]? = (T.filterMap fun k => l[k]?)[j]?
  | [], _ => ⟨rfl, fun j k h => by simp at h⟩
  | x :: T, h => by
    simp only [List.all_cons, Bool.and_eq_true, decide_eq_true_eq] at h
    obtain ⟨h1, h2⟩ := pick_len l T h.2
    have e : (List.filterMap (fun k => l[k]?) (x :: T)) = l[x] :: List.filterMap (fun k => l[k]?) T := by
      rw [List.filterMap_cons, List.getElem?_eq_getElem h.1]
    rw [e]
    refine ⟨by simp [h1], fun j k hk => ?_⟩
    cases j with
    | zero => simp at hk; subst hk; simp [List.getElem?_eq_getElem h.1]
    | succ j => simp only [List.getElem?_cons_succ] at hk ⊢; exact h2 j k hk
/-- All that the kernel can check of such a region: place x has been taken, the heads are those below n, the tail is T. -/
def tailXB (ops : Array Oper) (n x : Nat) (T : List Nat) : Bool :=
  let l0 := (Array.replicate ops.size false).setIfInBounds x true
  Region.noSelect ops && decide (n < x) && decide (x < ops.size) && decide (T.length + n + 1 = ops.size) && T.all (fun k => decide (n ≤ k)) && (T.all fun k => decide (k < ops.size)) &&
  (match ops[x]? with | some o => o.after.isEmpty | none => false) && Region.free .any ops (Array.replicate ops.size false) x && (Region.ready .any ops (Array.replicate ops.size false)).contains x &&
  Region.sinkB .any ops n && chainX .any ops n l0 && lexX .any ops T n 0 l0
theorem wp_region_tailX {id : Nat} {Q : Exit → Act → World → Prop} {a : Act} {w : World} {l : List Oper} {ox : Oper} (n x : Nat) (T : List Nat) (hm : P.follows .mixedOrders = true) (hB : tailXB l.toArray n x T = true)
    (hx : l[x]? = some ox)
    (hQ : ∀ v c a w, Q (.panic c) (a.put ox.dst v) w → Q (.panic c) a w) {v : Value} (hy : Yields P l.toArray ox v a)
    (h : wpStill P l.toArray { w with drawn := w.drawn + 1 } (fun a' => wpList P l.toArray Q (T.filterMap fun k => l[k]?) a' { w with drawn := w.drawn + 1 }) (l.take n) (a.put ox.dst v)) : (Code.region id l.toArray true).wp P Q a w := by
  simp only [tailXB, Bool.and_eq_true, decide_eq_true_eq] at hB
  obtain ⟨⟨⟨⟨⟨⟨⟨⟨⟨⟨⟨hsel, hnx⟩, hxs⟩, hTl⟩, hT⟩, hTs⟩, haf⟩, hfree⟩, hready⟩, hs⟩, hc⟩, hlex⟩ := hB
  have hxs' : x < l.length := by simpa using hxs
  obtain ⟨htl, hop⟩ := pick_len l T (by simpa using hTs)
  have hsz : l.toArray.size = l.length := by simp
  have hxo : l.toArray[x]? = some ox := by simpa using hx
  rw [hxo] at haf
  have hn' : n < l.length := by omega
  have hT' : ∀ k ∈ T, n ≤ k := fun k hk => by have := List.all_eq_true.1 hT k hk; simpa using this
  refine wp_region_any hm ?_
  rw [show l.toArray.size = (l.toArray.size - 1) + 1 by omega]
  refine wpAny_take hxo hsel (by rw [show l.toArray.size - 1 + 1 = l.toArray.size by omega]; exact hfree) (by rw [show l.toArray.size - 1 + 1 = l.toArray.size by omega]; exact hready) (hQ v) hy ?_
  rw [show l.toArray.size - 1 + 1 = l.toArray.size by omega]
  have hfl : ∀ j, (Array.replicate l.toArray.size false).getD j false = false := fun j => getD_replicate_false _ _
  have inv0 : HeadX .any l.toArray n ((Array.replicate l.toArray.size false).setIfInBounds x true) ((Array.replicate l.toArray.size false).setIfInBounds x true) := by
    refine ⟨by simp, fun j oj hj hl e he _ => ?_, fun t _ _ h0 => h0, fun t _ _ h0 => h0⟩
    by_cases hxj : x = j
    · subst hxj
      have : oj = ox := Option.some.inj (hj.symm.trans hxo)
      subst this
      have h0 : oj.after = #[] := by simpa using haf
      rw [h0] at he
      simp at he
    · rw [getD_set_ne false hxj, hfl] at hl; cases hl
  have hn0 : ((Array.replicate l.toArray.size false).setIfInBounds x true).getD n true = false := by
    rw [getD_set_ne true (by omega)]
    exact getD_in (by simpa using hn') (hfl n)
  have htk : (l.take n).length = n := by simp; omega
  have H := lex_X (md := .any) (T := T) hsel hs hc (by omega) hn0 hT' (l.take n) 0 _ (a.put ox.dst v) (fun j hj => by
    have hj' : j < n := by rw [htk] at hj; exact hj
    simp [hj']) (by simpa using htk) inv0 (by rw [htk]; exact hlex) h
  have := wpAny_of_head (Q' := Q) (g := T.length) (fun listed a' hL => wpAny_of_seqT T _ listed a' _ htl.symm (fun j k hk => by simpa using hop j k hk) hL.1 hL.2) _ _ _ H
  rw [htk, show n + T.length = l.toArray.size - 1 by omega] at this
  exact this
end
end Go.Proofs.YtpmcgicopogbhaaGreat
