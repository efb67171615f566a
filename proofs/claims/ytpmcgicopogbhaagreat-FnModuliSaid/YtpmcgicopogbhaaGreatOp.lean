/- How the arguments of the statements are opened. No conditions. -/
import Derived.Test.YtpmcgicopogbhaaGreatRows
import Derived.Test.YtpmcgicopogbhaaGreatBase
import Derived.WalkKit
import Derived.ProofKit
import Derived.OpenShut
import Derived.ShutString
import Derived.ChangeOld
import Derived.Below
import Derived.Lib.SmallJoins
import Derived.Deep.Slices
import Derived.Deep.Fields
namespace Go.Proofs.YtpmcgicopogbhaaGreat
open Go.ChangeShapes Go.WideShapes Go.ChangeAt Go.RowKit Go.Joins Go.Deep
set_option linter.unusedVariables false

theorem own : ownKnob Tryz.prog.godebug = none := by kernel_rfl
theorem laidOut : laidOutB Tryz.prog = true := by kernel_rfl
theorem wf64 {a : Int} (h : (Lit.int .i64 a).wf = true) : -9223372036854775808 ≤ a ∧ a ≤ 9223372036854775807 := by
  simp [Lit.wf, IntKind.min, IntKind.max, IntKind.signed, IntKind.bits] at h
  exact ⟨by omega, by omega⟩
theorem cell_form {w : World} {x : Addr} {v : Value} (h : w.cell? (x.add 0) = some v) : ∃ b o, x = ⟨b, o, none⟩ ∧ b < w.heap.size := by
  have hs := World.cell?_spot h
  have hb := World.block_lt_of_cell? _ _ h
  obtain ⟨b, o, s⟩ := x
  simp [Addr.add] at hs hb
  subst hs
  exact ⟨b, o, rfl, hb⟩
theorem add_form (b o i : Nat) : (⟨b, o, none⟩ : Addr).add i = ⟨b, o + i, none⟩ := by
  unfold Addr.add; split <;> simp_all
section
variable {H : Type} {enc : TypeId × Value → H} {P : Program} {w : World} {base : Nat} {spare : Nat → Bool} {held : Bool}
theorem open_Ints {t e : TypeId} {A : Option Addr} {n c : Nat} {d : DataW H} {p : List MemPlace} (ht : P.underlying t = some (.slice e)) (he : P.underlying e = some (.int .i64)) (hc : P.cellsOf e = 1)
    (h : DataW.Trod enc P w base spare held t (.slice A n c) d p) : ∃ zs : List Int, n = zs.length ∧ zs.length ≤ 9223372036854775807 ∧ Ints w A zs := by
  obtain ⟨fuel, hf⟩ := h
  rcases open_ints ht he hc hf with ⟨hcs, _⟩ | ⟨x, l, c', zs, hcs, _, hl, hm, hz, _, hcell, hwz⟩
  · simp [Value.cells] at hcs
    obtain ⟨rfl, rfl, rfl⟩ := hcs
    exact ⟨[], rfl, by simp, fun h => absurd h (by simp)⟩
  · simp [Value.cells] at hcs
    obtain ⟨rfl, rfl, rfl⟩ := hcs
    have hlen : n ≤ zs.length := by rw [hz]; split <;> omega
    have hlt : (zs.take n).length = n := by simp; omega
    refine ⟨zs.take n, hlt.symm, by unfold maxLen at hm; omega, fun h => ?_⟩
    rw [hlt] at h
    obtain ⟨b, o, rfl, hb⟩ := cell_form (hcell 0 (by omega))
    refine ⟨b, o, rfl, hb, fun i hi => ?_⟩
    rw [hlt] at hi
    have := hcell i (by omega)
    rw [add_form] at this
    rw [this]
    congr 2
    simp [List.getD, hi]
theorem struct2_cells {t : TypeId} {f0 f1 : Field} {fuel : Nat} {cs : List Value} {x : DataW H × List MemPlace} (hs : P.underlying t = some (.struct #[f0, f1])) (h0 : P.underlying f0.type = some (.int .i64)) (h1 : P.underlying f1.type = some (.int .i64))
    (hone : oneCellFields P #[f0, f1] = true) (hc : P.cellsOf t = 2) (h : DataW.trod enc P w base spare held fuel t cs = some x) : ∃ a b : Int, cs = [.int .i64 a, .int .i64 b] := by
  obtain ⟨ys, n', hn', hy, hlen, hyl, hf⟩ := DataW.trod_struct hs h
  obtain ⟨o0, k0⟩ := hone_of hone 0 f0 rfl
  obtain ⟨o1, k1⟩ := hone_of hone 1 f1 rfl
  match cs, hlen.trans hc with
  | [c0, c1], _ =>
    match ys, hyl with
    | [y0, y1], _ =>
      have g0 := hf 0 f0 rfl
      have g1 := hf 1 f1 rfl
      simp only [o0, k0, o1, k1] at g0 g1
      obtain ⟨a, e0, _, _⟩ := DataW.trod_int h0 g0
      obtain ⟨b, e1, _, _⟩ := DataW.trod_int h1 g1
      simp at e0 e1
      exact ⟨a, b, by rw [e0, e1]⟩
theorem open_Prs {t e : TypeId} {f0 f1 : Field} {A : Option Addr} {n c : Nat} {d : DataW H} {p : List MemPlace} (ht : P.underlying t = some (.slice e)) (he : P.underlying e = some (.struct #[f0, f1])) (h0 : P.underlying f0.type = some (.int .i64)) (h1 : P.underlying f1.type = some (.int .i64))
    (hone : oneCellFields P #[f0, f1] = true) (hc : P.cellsOf e = 2) (h : DataW.Trod enc P w base spare held t (.slice A n c) d p) : ∃ zs : List (Int × Int), n = zs.length ∧ zs.length ≤ 9223372036854775807 ∧ Prs w A zs := by
  obtain ⟨fuel, hf⟩ := h
  rcases open_slice ht hf with h0 | ⟨a, len, cap, m, n', D, Pl, hcs, hb, hl, hm, hmm, hx, hi⟩
  · obtain ⟨hcs, _⟩ := h0
    simp [Value.cells] at hcs
    obtain ⟨rfl, rfl, rfl⟩ := hcs
    exact ⟨[], rfl, by simp, fun h => absurd h (by simp)⟩
  · simp [Value.cells] at hcs
    obtain ⟨rfl, rfl, rfl⟩ := hcs
    have hcell : ∀ i, i < n → ∃ p : Int × Int, w.cell? (a.add (i * 2)) = some (.int .i64 p.1) ∧ w.cell? ((a.add (i * 2)).add 1) = some (.int .i64 p.2) := by
      intro i hin
      obtain ⟨cs', hc1, hc2⟩ := hi i (by rw [hmm]; split <;> omega)
      rw [hc] at hc1
      obtain ⟨u, v, rfl⟩ := struct2_cells he h0 h1 hone hc hc2
      obtain ⟨_, hcl, hat⟩ := World.cells?_some hc1
      have a0 := hat 0 (by omega)
      have a1 := hat 1 (by omega)
      refine ⟨(u, v), ?_, ?_⟩
      · have : (a.add (i * 2)).add 0 = a.add (i * 2) := by simp [Addr.add]
        rw [this] at a0
        exact a0
      · exact a1
    have hch : ∃ f : Nat → Int × Int, ∀ i, i < n → w.cell? (a.add (i * 2)) = some (.int .i64 (f i).1) ∧ w.cell? ((a.add (i * 2)).add 1) = some (.int .i64 (f i).2) :=
      ⟨fun i => if h : i < n then Classical.choose (hcell i h) else (0, 0), fun i h => by simp only [dif_pos h]; exact Classical.choose_spec (hcell i h)⟩
    obtain ⟨f, hf⟩ := hch
    have hlt : ((List.range n).map f).length = n := by simp
    refine ⟨(List.range n).map f, hlt.symm, by unfold maxLen at hm; omega, fun h => ?_⟩
    rw [hlt] at h
    obtain ⟨b, o, rfl, hbl⟩ := cell_form (by simpa using (hf 0 (by omega)).1)
    refine ⟨b, o, rfl, hbl, fun i hi => ?_⟩
    rw [hlt] at hi
    have := hf i hi
    rw [add_form, add_form] at this
    rw [this.1, this.2]
    simp [List.getD, hi]
theorem formula_cells {t e : TypeId} {g0 g1 g2 k0 k1 : Field} {fuel : Nat} {cs : List Value} {x : DataW H × List MemPlace} (hs : P.underlying t = some (.struct #[g0, g1, g2])) (h0 : P.underlying g0.type = some (.struct #[k0, k1])) (i0 : P.underlying k0.type = some (.int .i64)) (i1 : P.underlying k1.type = some (.int .i64))
    (hone : oneCellFields P #[k0, k1] = true) (h1 : P.underlying g1.type = some .string) (h2 : P.underlying g2.type = some (.slice e)) (he : P.underlying e = some (.int .i64))
    (hc : (P.cellsOf t, P.cellsOf g0.type, P.cellsOf g1.type, P.cellsOf g2.type, P.cellsOf e) = (4, 2, 1, 1, 1)) (ho : (g0.offset, g1.offset, g2.offset) = (0, 2, 3)) (h : DataW.trod enc P w base spare held fuel t cs = some x) :
    ∃ (dg tn : Int) (nm : ByteArray) (A : Option Addr) (c : Nat) (zs : List Int), cs = [.int .i64 dg, .int .i64 tn, .string nm, .slice A zs.length c] ∧ zs.length ≤ 9223372036854775807 ∧ Ints w A zs ∧ nm.size ≤ 9223372036854775807 := by
  simp only [Prod.mk.injEq] at hc ho
  obtain ⟨c0, c1, c2, c3, c4⟩ := hc
  obtain ⟨o0, o1, o2⟩ := ho
  obtain ⟨ys, n', hn', hy, hlen, hyl, hf⟩ := DataW.trod_struct hs h
  match cs, hlen.trans c0 with
  | [d0, d1, d2, d3], _ =>
    match ys, hyl with
    | [y0, y1, y2], _ =>
      have q0 := hf 0 g0 rfl
      have q1 := hf 1 g1 rfl
      have q2 := hf 2 g2 rfl
      simp only [o0, o1, o2, c1, c2, c3] at q0 q1 q2
      obtain ⟨a, b, e0⟩ := struct2_cells h0 i0 i1 hone c1 q0
      obtain ⟨s, e1, _, hsz⟩ := DataW.trod_string h1 q1
      obtain ⟨A, n, c, e2⟩ := slice_form h2 q2
      simp at e0 e1 e2
      simp only [List.drop, List.take] at q2
      rw [e2] at q2
      obtain ⟨zs, rfl, hl, hI⟩ := open_Ints (d := y2.1) (p := y2.2) h2 he c4 ⟨n', by simpa [Value.cells] using q2⟩
      exact ⟨a, b, s, A, c, zs, by rw [e0.1, e0.2, e1, e2], hl, hI, by unfold maxLen at hsz; omega⟩
theorem chart_cells {t e : TypeId} {f0 f1 f2 f3 g0 g1 g2 k0 k1 : Field} {fuel : Nat} {cs : List Value} {x : DataW H × List MemPlace} (ht : P.underlying t = some (.struct #[f0, f1, f2, f3])) (hs : P.underlying f0.type = some (.struct #[g0, g1, g2])) (h0 : P.underlying g0.type = some (.struct #[k0, k1])) (i0 : P.underlying k0.type = some (.int .i64)) (i1 : P.underlying k1.type = some (.int .i64))
    (j1 : P.underlying f1.type = some (.int .i64)) (j2 : P.underlying f2.type = some (.int .i64)) (j3 : P.underlying f3.type = some (.int .i64))
    (hone : oneCellFields P #[k0, k1] = true) (h1 : P.underlying g1.type = some .string) (h2 : P.underlying g2.type = some (.slice e)) (he : P.underlying e = some (.int .i64))
    (hc : (P.cellsOf f0.type, P.cellsOf g0.type, P.cellsOf g1.type, P.cellsOf g2.type, P.cellsOf e) = (4, 2, 1, 1, 1)) (ho : (g0.offset, g1.offset, g2.offset) = (0, 2, 3))
    (hC : (P.cellsOf t, P.cellsOf f1.type, P.cellsOf f2.type, P.cellsOf f3.type) = (7, 1, 1, 1)) (hO : (f0.offset, f1.offset, f2.offset, f3.offset) = (0, 4, 5, 6)) (h : DataW.trod enc P w base spare held fuel t cs = some x) :
    ∃ (C : Ch) (A : Option Addr) (c : Nat), cs = [.int .i64 C.dg, .int .i64 C.tn, .string C.nm, .slice A C.zs.length c, .int .i64 C.wd, .int .i64 C.lf, .int .i64 C.rt] ∧ C.zs.length ≤ 9223372036854775807 ∧ Ints w A C.zs ∧ C.nm.size ≤ 9223372036854775807 := by
  have hc' := hc
  simp only [Prod.mk.injEq] at hC hO hc'
  obtain ⟨c0, c1, c2, c3⟩ := hC
  obtain ⟨o0, o1, o2, o3⟩ := hO
  obtain ⟨ys, n', hn', hy, hlen, hyl, hf⟩ := DataW.trod_struct ht h
  match cs, hlen.trans c0 with
  | [d0, d1, d2, d3, d4, d5, d6], _ =>
    match ys, hyl with
    | [y0, y1, y2, y3], _ =>
      have q0 := hf 0 f0 rfl
      have q1 := hf 1 f1 rfl
      have q2 := hf 2 f2 rfl
      have q3 := hf 3 f3 rfl
      simp only [o0, o1, o2, o3, c1, c2, c3, hc'.1] at q0 q1 q2 q3
      obtain ⟨dg, tn, nm, A, c, zs, e0, hl, hI, hsz⟩ := formula_cells hs h0 i0 i1 hone h1 h2 he hc ho q0
      obtain ⟨a, e1, _, _⟩ := DataW.trod_int j1 q1
      obtain ⟨b, e2, _, _⟩ := DataW.trod_int j2 q2
      obtain ⟨d, e3, _, _⟩ := DataW.trod_int j3 q3
      simp at e0 e1 e2 e3
      obtain ⟨e01, e02, e03, e04⟩ := e0
      exact ⟨⟨dg, tn, nm, zs, a, b, d⟩, A, c, by rw [e01, e02, e03, e04, e1, e2, e3], hl, hI, hsz⟩
theorem open_Chart {r : Reach} {b0 : Nat} {t e : TypeId} {f0 f1 f2 f3 g0 g1 g2 k0 k1 : Field} {v : Value} {d : DataW H} {p : List MemPlace} (ht : P.underlying t = some (.struct #[f0, f1, f2, f3])) (hs : P.underlying f0.type = some (.struct #[g0, g1, g2])) (h0 : P.underlying g0.type = some (.struct #[k0, k1])) (i0 : P.underlying k0.type = some (.int .i64)) (i1 : P.underlying k1.type = some (.int .i64))
    (j1 : P.underlying f1.type = some (.int .i64)) (j2 : P.underlying f2.type = some (.int .i64)) (j3 : P.underlying f3.type = some (.int .i64))
    (hone : oneCellFields P #[k0, k1] = true) (h1 : P.underlying g1.type = some .string) (h2 : P.underlying g2.type = some (.slice e)) (he : P.underlying e = some (.int .i64))
    (hc : (P.cellsOf f0.type, P.cellsOf g0.type, P.cellsOf g1.type, P.cellsOf g2.type, P.cellsOf e) = (4, 2, 1, 1, 1)) (ho : (g0.offset, g1.offset, g2.offset) = (0, 2, 3))
    (hC : (P.cellsOf t, P.cellsOf f1.type, P.cellsOf f2.type, P.cellsOf f3.type) = (7, 1, 1, 1)) (hO : (f0.offset, f1.offset, f2.offset, f3.offset) = (0, 4, 5, 6))
    (hv : Value.okWide P w r b0 t v) (h : DataW.Trod enc P w base spare held t v d p) :
    ∃ (C : Ch) (A : Option Addr) (c : Nat), v = .agg #[.int .i64 C.dg, .int .i64 C.tn, .string C.nm, .slice A C.zs.length c, .int .i64 C.wd, .int .i64 C.lf, .int .i64 C.rt] ∧ C.zs.length ≤ 9223372036854775807 ∧ Ints w A C.zs ∧ C.nm.size ≤ 9223372036854775807 := by
  obtain ⟨cs, rfl, hsz⟩ := okWide_struct ht hv
  obtain ⟨fuel, hf⟩ := h
  obtain ⟨C, A, c, e0, k⟩ := chart_cells ht hs h0 i0 i1 j1 j2 j3 hone h1 h2 he hc ho hC hO (by simpa [Value.cells] using hf)
  refine ⟨C, A, c, ?_, k⟩
  congr 1
  apply Array.toList_inj.1
  simpa [Value.cells] using e0
theorem open_Release {r : Reach} {b0 : Nat} {t e : TypeId} {f0 f1 f2 f3 f4 f5 f6 c0 c1 c2 c3 g0 g1 g2 k0 k1 : Field} {v : Value} {d : DataW H} {p : List MemPlace} (hR : P.underlying t = some (.struct #[f0, f1, f2, f3, f4, f5, f6]))
    (q0 : P.underlying f0.type = some (.struct #[c0, c1, c2, c3])) (q1 : P.underlying f1.type = some (.struct #[k0, k1])) (q2 : P.underlying f2.type = some (.struct #[k0, k1])) (q3 : P.underlying f3.type = some (.struct #[k0, k1])) (q4 : P.underlying f4.type = some (.struct #[k0, k1]))
    (q5 : P.underlying f5.type = some (.int .i64)) (q6 : P.underlying f6.type = some (.int .i64))
    (hs : P.underlying c0.type = some (.struct #[g0, g1, g2])) (h0 : P.underlying g0.type = some (.struct #[k0, k1])) (i0 : P.underlying k0.type = some (.int .i64)) (i1 : P.underlying k1.type = some (.int .i64))
    (j1 : P.underlying c1.type = some (.int .i64)) (j2 : P.underlying c2.type = some (.int .i64)) (j3 : P.underlying c3.type = some (.int .i64))
    (hone : oneCellFields P #[k0, k1] = true) (h1 : P.underlying g1.type = some .string) (h2 : P.underlying g2.type = some (.slice e)) (he : P.underlying e = some (.int .i64))
    (hc : (P.cellsOf c0.type, P.cellsOf g0.type, P.cellsOf g1.type, P.cellsOf g2.type, P.cellsOf e) = (4, 2, 1, 1, 1)) (ho : (g0.offset, g1.offset, g2.offset) = (0, 2, 3))
    (hC : (P.cellsOf f0.type, P.cellsOf c1.type, P.cellsOf c2.type, P.cellsOf c3.type) = (7, 1, 1, 1)) (hO : (c0.offset, c1.offset, c2.offset, c3.offset) = (0, 4, 5, 6))
    (hD : (P.cellsOf t, P.cellsOf f1.type, P.cellsOf f2.type, P.cellsOf f3.type, P.cellsOf f4.type, P.cellsOf f5.type, P.cellsOf f6.type) = (17, 2, 2, 2, 2, 1, 1)) (hP : (f0.offset, f1.offset, f2.offset, f3.offset, f4.offset, f5.offset, f6.offset) = (0, 7, 9, 11, 13, 15, 16))
    (hv : Value.okWide P w r b0 t v) (h : DataW.Trod enc P w base spare held t v d p) :
    ∃ (R : Re) (A : Option Addr) (c : Nat), v = .agg #[.int .i64 R.ch.dg, .int .i64 R.ch.tn, .string R.ch.nm, .slice A R.ch.zs.length c, .int .i64 R.ch.wd, .int .i64 R.ch.lf, .int .i64 R.ch.rt, .int .i64 R.ad, .int .i64 R.at_, .int .i64 R.bd, .int .i64 R.bt, .int .i64 R.cd, .int .i64 R.ct, .int .i64 R.dd, .int .i64 R.dt, .int .i64 R.ey, .int .i64 R.bo] ∧ R.ch.zs.length ≤ 9223372036854775807 ∧ Ints w A R.ch.zs ∧ R.ch.nm.size ≤ 9223372036854775807 := by
  obtain ⟨cs, rfl, hsz⟩ := okWide_struct hR hv
  obtain ⟨fuel, hf⟩ := h
  have hC' := hC
  simp only [Prod.mk.injEq] at hD hP hC'
  obtain ⟨d0, d1, d2, d3, d4, d5, d6⟩ := hD
  obtain ⟨o0, o1, o2, o3, o4, o5, o6⟩ := hP
  obtain ⟨ys, n', hn', hy, hlen, hyl, hf⟩ := DataW.trod_struct (cs := cs.toList) hR (by simpa [Value.cells] using hf)
  match hcs : cs.toList, hlen.trans d0 with
  | [x0, x1, x2, x3, x4, x5, x6, x7, x8, x9, x10, x11, x12, x13, x14, x15, x16], _ =>
    match ys, hyl with
    | [y0, y1, y2, y3, y4, y5, y6], _ =>
      rw [hcs] at hf
      have p0 := hf 0 f0 rfl
      have p1 := hf 1 f1 rfl
      have p2 := hf 2 f2 rfl
      have p3 := hf 3 f3 rfl
      have p4 := hf 4 f4 rfl
      have p5 := hf 5 f5 rfl
      have p6 := hf 6 f6 rfl
      simp only [o0, o1, o2, o3, o4, o5, o6, d1, d2, d3, d4, d5, d6, hC'.1] at p0 p1 p2 p3 p4 p5 p6
      obtain ⟨C, A, c, e0, hl, hI, hnm⟩ := chart_cells q0 hs h0 i0 i1 j1 j2 j3 hone h1 h2 he hc ho hC hO p0
      obtain ⟨ad, at_, e1⟩ := struct2_cells q1 i0 i1 hone d1 p1
      obtain ⟨bd, bt, e2⟩ := struct2_cells q2 i0 i1 hone d2 p2
      obtain ⟨cd, ct, e3⟩ := struct2_cells q3 i0 i1 hone d3 p3
      obtain ⟨dd, dt, e4⟩ := struct2_cells q4 i0 i1 hone d4 p4
      obtain ⟨ey, e5, _, _⟩ := DataW.trod_int q5 p5
      obtain ⟨bo, e6, _, _⟩ := DataW.trod_int q6 p6
      simp at e0 e1 e2 e3 e4 e5 e6
      obtain ⟨e00, e01, e02, e03, e04, e05, e06⟩ := e0
      refine ⟨⟨C, ad, at_, bd, bt, cd, ct, dd, dt, ey, bo⟩, A, c, ?_, hl, hI, hnm⟩
      congr 1
      apply Array.toList_inj.1
      rw [hcs, e00, e01, e02, e03, e04, e05, e06, e1.1, e1.2, e2.1, e2.2, e3.1, e3.2, e4.1, e4.2, e5, e6]
end
end Go.Proofs.YtpmcgicopogbhaaGreat
