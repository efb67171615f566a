/- Chapter 23: lists of points on a scale. Conditions: as stated at each contract. -/
import Derived.Test.YtpmcgicopogbhaaGreatProg
import Derived.Test.YtpmcgicopogbhaaGreatBase
import Derived.Test.YtpmcgicopogbhaaGreatZy
import Derived.Test.YtpmcgicopogbhaaGreatRw
import Derived.Test.YtpmcgicopogbhaaGreatL01
import Derived.Test.YtpmcgicopogbhaaGreatCp
import Derived.Test.YtpmcgicopogbhaaGreatL18
import Derived.Test.YtpmcgicopogbhaaGreatL23
import Derived.Test.YtpmcgicopogbhaaGreatL03
import Derived.Test.YtpmcgicopogbhaaGreatL23d
import Derived.Test.YtpmcgicopogbhaaGreatL23e
import Derived.Test.YtpmcgicopogbhaaGreatL24
import Derived.Test.YtpmcgicopogbhaaGreatL24b
import Derived.Test.YtpmcgicopogbhaaGreatL23g
import Derived.WalkKit
import Derived.WalkSpells
import Derived.WalkLawsBesides
import Derived.Lib.Hide
import Derived.Deep.QuietTactic
import Derived.BigQuiet
import Derived.Deep.Draws
import Derived.Deep.RegionHeld3
namespace Go.Proofs.YtpmcgicopogbhaaGreat
set_option linter.unusedSimpArgs false
open Go.RowKit
set_option linter.unusedVariables false
def ptOk (C : Ch) (sc : Int) (p : Int × Int) : Bool := decide (plC C sc p.1 p.2 = 0)
def ptOf (C : Ch) (sc : Int) (p : Int × Int) : Int × Int := (ppX C sc p.1 p.2, ppY C sc p.1 p.2)
/-- The code and the points of figures on a scale. -/
def pcC (C : Ch) (sc : Int) (ps : List (Int × Int)) : Int := if ps.all (ptOk C sc) then 0 else 3
def pcV (C : Ch) (sc : Int) (ps : List (Int × Int)) : List (Int × Int) := if ps.all (ptOk C sc) then ps.map (ptOf C sc) else []
/-- A row of pairs and a code come back. -/
def PtsQ (T : TypeId) (zs : List (Int × Int)) (code : Int) (w : World) (e : Ending) (w' : World) : Prop := ∃ v, e = .returned (.tuple #[v, .int .i64 code]) ∧ OwnP w' w.heap.size T v zs ∧ Below w.heap.size w w'
theorem all_step {α : Type} (f : α → Bool) {ps : List α} {k : Nat} (hk : k < ps.length) (h : (ps.take k).all f = true) (hp : f ps[k] = true) : (ps.take (k + 1)).all f = true := by
  rw [List.take_succ_eq_append_getElem hk, List.all_append, h]; simp [hp]
theorem all_no {α : Type} (f : α → Bool) {ps : List α} {k : Nat} (hk : k < ps.length) (hp : f ps[k] = false) : ps.all f = false := by
  cases h : ps.all f with
  | false => rfl
  | true => have := List.all_eq_true.1 h _ (List.getElem_mem hk); rw [hp] at this; cases this
theorem infoPt : (Tryz.prog.info? 120).map (fun i => (i.zero, i.size, i.bytes)) = some (some (.agg #[.int .i64 0, .int .i64 0]), 2, 16) := by kernel_rfl
set_option maxHeartbeats 2000000 in
theorem chartPoints_c (C : Ch) (A : Option Addr) (c : Nat) (sc : Int) (B : Option Addr) (d : Nat) (ps : List (Int × Int)) (h : okCh C = true) (hp : okFs ps = true) (hs : inB sc 0 2 = true) (hn : ps.length ≤ 1048576) (w : World) (hA : Ints w A C.zs) (hB : Prs w B ps) :
    Calls Tryz.prog 73 #[.agg #[.int .i64 C.dg, .int .i64 C.tn, .string C.nm, .slice A C.zs.length c, .int .i64 C.wd, .int .i64 C.lf, .int .i64 C.rt], .int .i64 sc, .slice B ps.length d] w (PtsQ 120 (pcV C sc ps) (pcC C sc ps) w) := by
  have HA := Lib.hid hA
  have HB := Lib.hid hB
  have HP := Lib.hid hp
  clear hA hB hp
  go_enter Tryz.func73, Tryz.ntmps73
  go_wp2
  go_loopw [8, 10, 11, 12, 16] (fun v _ _ _ i wr => ∃ k : Nat, k ≤ ps.length ∧ i = .int .i64 k ∧ Hid ((ps.take k).all (ptOk C sc) = true) ∧ OwnP wr (w.heap.size + 1) 120 v ((ps.take k).map (ptOf C sc)) ∧ Hid (Blk wr w.heap.size 30 #[.int .i64 C.dg, .int .i64 C.tn, .string C.nm, .slice A C.zs.length c, .int .i64 C.wd, .int .i64 C.lf, .int .i64 C.rt]) ∧ Below w.heap.size w wr) (fun _ _ _ _ i _ => ps.length - (intOf i).toNat)
  case atStart =>
    have hO := OwnP.new (w.alloc (.cells #[.int .i64 C.dg, .int .i64 C.tn, .string C.nm, .slice A C.zs.length c, .int .i64 C.wd, .int .i64 C.lf, .int .i64 C.rt] 30)) (w.heap.size + 1) 120 (by simp)
    simp only [World.size_alloc] at hO
    exact ⟨0, Nat.zero_le _, rfl, Lib.hid rfl, hO, Lib.hid (Blk.alloc _ (Blk.new _ _ _)), by repeat (with_reducible first | exact Below.refl _ _ | assumption | refine Bel.alloc ?_ _ | refine Bel.step (by assumption) ?_ | refine Below.drew ?_ | refine Bel.drewN ?_ _ | refine Below.setCell ?_ (by first | exact Nat.le_refl _ | omega | (simp; done) | (simp; omega)) _)⟩
  case round =>
    obtain ⟨k, hk, rfl, HOK, hO, HC, hbel⟩ := hrel
    by_cases hlt : k < ps.length
    · obtain ⟨bv, ov, rfl, hbv, v0, v1⟩ := (Prs.step hbel HB.out).at_ k hlt
      have hf : okF ps[k].1 ps[k].2 = true := by simpa using List.all_eq_true.1 HP.out _ (List.getElem_mem hlt)
      have HF := Lib.hid hf
      have HT := Lib.hid (show (ps.take (k + 1)).map (ptOf C sc) = (ps.take k).map (ptOf C sc) ++ [(ppX C sc ps[k].1 ps[k].2, ppY C sc ps[k].1 ps[k].2)] by rw [List.take_succ_eq_append_getElem hlt, List.map_append]; rfl)
      have HS := Lib.hid (fun hx : ptOk C sc ps[k] = true => all_step (ptOk C sc) hlt HOK.out hx)
      have HN := Lib.hid (fun hx : ptOk C sc ps[k] = false => all_no (ptOk C sc) hlt hx)
      have hl : ((ps.take k).map (ptOf C sc)).length ≤ 1000000000 := by simp; omega
      have HL := Lib.hid hl
      clear hf hl
      by_cases hc : plC C sc ps[k].1 ps[k].2 = 0
      · have HY := Lib.hid (HS.out (by simp [ptOk, hc]))
        have HK := Lib.hid hc
        have c0 : wr.cell? ⟨w.heap.size, 0, none⟩ = some (.int .i64 C.dg) := by rw [HC.out.cell]; rfl
        have c1 : wr.cell? ⟨w.heap.size, 1, none⟩ = some (.int .i64 C.tn) := by rw [HC.out.cell]; rfl
        have c2 : wr.cell? ⟨w.heap.size, 2, none⟩ = some (.string C.nm) := by rw [HC.out.cell]; rfl
        have c3 : wr.cell? ⟨w.heap.size, 3, none⟩ = some (.slice A C.zs.length c) := by rw [HC.out.cell]; rfl
        have c4 : wr.cell? ⟨w.heap.size, 4, none⟩ = some (.int .i64 C.wd) := by rw [HC.out.cell]; rfl
        have c5 : wr.cell? ⟨w.heap.size, 5, none⟩ = some (.int .i64 C.lf) := by rw [HC.out.cell]; rfl
        have c6 : wr.cell? ⟨w.heap.size, 6, none⟩ = some (.int .i64 C.rt) := by rw [HC.out.cell]; rfl
        have clt := HC.out.lt
        have hr1 : w.heap.size + 1 ≤ wr.heap.size := by omega
        clear hc
        generalize ps[k].1 = vd at *
        generalize ps[k].2 = vt at *
        go_wp2_with fail
        go_at_call 119; refine (chartPoint_c _ _ _ _ _ _ h HF.out hs _ (Ints.alloc _ (Ints.step hbel HA.out))).mono ?_; rintro e w1 ⟨rfl, hb1⟩; obtain ⟨hc1, hf1, hz1⟩ := bel hb1; (try simp only [World.size_drew, World.cell?_drew, World.frozen?_drew, World.heap_drewN, World.cell?_drewN, World.frozen?_drewN] at hc1 hf1 hz1); (try have hl1 : w.heap.size < w1.heap.size := zl hb1); (try have hm1 : w.heap.size + 1 < w1.heap.size := zl hb1); (try have hn1 : w.heap.size + 1 + 1 < w1.heap.size := zl hb1); (try have hp1 : b < w1.heap.size := zl hb1); (try have ho1 : b' < w1.heap.size := by (have hq := hb1.size; (try simp at hq); omega))
        rw [HK.out]
        have hO2 := OwnP.step hb1 (OwnP.alloc (.cells #[.int .i64 vd, .int .i64 vt] 25) hO)
        have HC2 := Lib.hid (Blk.step hb1 (Blk.alloc (.cells #[.int .i64 vd, .int .i64 vt] 25) HC.out))
        have hbel1 : Below w.heap.size w w1 := by repeat (with_reducible first | exact Below.refl _ _ | assumption | refine Bel.alloc ?_ _ | refine Bel.step (by assumption) ?_ | refine Below.drew ?_ | refine Bel.drewN ?_ _ | refine Below.setCell ?_ (by first | exact Nat.le_refl _ | omega | (simp; done) | (simp; omega)) _)
        have hr2 : w.heap.size + 1 ≤ w1.heap.size := by have := hb1.size; (try simp at this); omega
        clear hb1 hc1 hf1 hz1 c0 c1 c2 c3 c4 c5 c6 clt hO
        generalize ppX C sc vd vt = X at *
        generalize ppY C sc vd vt = Y at *
        go_wp2_with (at_builtin; refine wpList_app1P rfl _ _ 99 rfl (w.heap.size + 1) 120 _ Tryz.underlying99 infoPt (by rfl) _ _ (X, Y) rfl (OwnP.alloc _ (OwnP.alloc _ hO2)) (w1.heap.size + 1) rfl (by simp [go_sem]) (by simp [go_sem]) HL.out (by simp; omega) ?_; intro v2 w2 hO3 hb2)
        have HC3 := Lib.hid ((hb2.block _ (by omega)).trans (Blk.alloc (.cells #[.int .i64 X, .int .i64 Y] 120) (Blk.alloc (.cells #[.int .i64 X, .int .i64 Y] 120) HC2.out)))
        have hbel2 : Below w.heap.size w w2 := (show Below w.heap.size w ((w1.alloc (.cells #[.int .i64 X, .int .i64 Y] 120)).alloc (.cells #[.int .i64 X, .int .i64 Y] 120)) by repeat (with_reducible first | exact Below.refl _ _ | assumption | refine Bel.alloc ?_ _ | refine Bel.step (by assumption) ?_ | refine Below.drew ?_ | refine Bel.drewN ?_ _ | refine Below.setCell ?_ (by first | exact Nat.le_refl _ | omega | (simp; done) | (simp; omega)) _)).trans (hb2.mono (by omega))
        go_wp2
        go_roundw
        case rel => exact ⟨k + 1, by omega, by go_num, HY, by rw [HT.out]; exact hO3, HC3, hbel2⟩
        case measure => simp [intOf]; omega
      · have HX := Lib.hid (show pcC C sc ps = 3 ∧ pcV C sc ps = [] by have := HN.out (by simp [ptOk, hc]); simp [pcC, pcV, this])
        have HK := Lib.hid (pl_3 hc)
        have c0 : wr.cell? ⟨w.heap.size, 0, none⟩ = some (.int .i64 C.dg) := by rw [HC.out.cell]; rfl
        have c1 : wr.cell? ⟨w.heap.size, 1, none⟩ = some (.int .i64 C.tn) := by rw [HC.out.cell]; rfl
        have c2 : wr.cell? ⟨w.heap.size, 2, none⟩ = some (.string C.nm) := by rw [HC.out.cell]; rfl
        have c3 : wr.cell? ⟨w.heap.size, 3, none⟩ = some (.slice A C.zs.length c) := by rw [HC.out.cell]; rfl
        have c4 : wr.cell? ⟨w.heap.size, 4, none⟩ = some (.int .i64 C.wd) := by rw [HC.out.cell]; rfl
        have c5 : wr.cell? ⟨w.heap.size, 5, none⟩ = some (.int .i64 C.lf) := by rw [HC.out.cell]; rfl
        have c6 : wr.cell? ⟨w.heap.size, 6, none⟩ = some (.int .i64 C.rt) := by rw [HC.out.cell]; rfl
        have clt := HC.out.lt
        clear hc
        generalize ps[k].1 = vd at *
        generalize ps[k].2 = vt at *
        go_wp2_with fail
        go_at_call 119; refine (chartPoint_c _ _ _ _ _ _ h HF.out hs _ (Ints.alloc _ (Ints.step hbel HA.out))).mono ?_; rintro e w1 ⟨rfl, hb1⟩; obtain ⟨hc1, hf1, hz1⟩ := bel hb1; (try simp only [World.size_drew, World.cell?_drew, World.frozen?_drew, World.heap_drewN, World.cell?_drewN, World.frozen?_drewN] at hc1 hf1 hz1); (try have hl1 : w.heap.size < w1.heap.size := zl hb1); (try have hm1 : w.heap.size + 1 < w1.heap.size := zl hb1); (try have hn1 : w.heap.size + 1 + 1 < w1.heap.size := zl hb1); (try have hp1 : b < w1.heap.size := zl hb1); (try have ho1 : b' < w1.heap.size := by (have hq := hb1.size; (try simp at hq); omega))
        rw [HK.out.1]
        go_wp2
        go_ret2
        exact ⟨.slice none 0 0, by rw [HX.out.1]; rfl, by rw [HX.out.2]; exact OwnP.nil _ _ _, by repeat (with_reducible first | exact Below.refl _ _ | assumption | refine Bel.alloc ?_ _ | refine Bel.step (by assumption) ?_ | refine Below.drew ?_ | refine Bel.drewN ?_ _ | refine Below.setCell ?_ (by first | exact Nat.le_refl _ | omega | (simp; done) | (simp; omega)) _)⟩
    · obtain rfl : k = ps.length := by omega
      have HX := Lib.hid (show pcC C sc ps = 0 ∧ pcV C sc ps = (ps.take ps.length).map (ptOf C sc) by have := HOK.out; rw [List.take_length] at this ⊢; simp [pcC, pcV, this])
      go_wp2
      go_ret2
      exact ⟨_, by rw [HX.out.1]; rfl, by rw [HX.out.2]; exact OwnP.ge_mono hO (by omega), by repeat (with_reducible first | exact Below.refl _ _ | assumption | refine Bel.alloc ?_ _ | refine Bel.step (by assumption) ?_ | refine Below.drew ?_ | refine Bel.drewN ?_ _ | refine Below.setCell ?_ (by first | exact Nat.le_refl _ | omega | (simp; done) | (simp; omega)) _)⟩
def spqC (C : Ch) (sc : Int) (ps : List (Int × Int)) : Int := if ckC C sc (okFs ps) = 0 then (if ps.length ≤ 100 then pcC C sc ps else 3) else ckC C sc (okFs ps)
def spqV (C : Ch) (sc : Int) (ps : List (Int × Int)) : List (Int × Int) := if spqC C sc ps = 0 then pcV C sc ps else []
theorem spq_no {C : Ch} {sc : Int} {ps : List (Int × Int)} (h : ckC C sc (okFs ps) ≠ 0) : spqC C sc ps = ckC C sc (okFs ps) ∧ spqV C sc ps = [] := by
  have : spqC C sc ps = ckC C sc (okFs ps) := by simp [spqC, h]
  exact ⟨this, by simp [spqV, this, h]⟩
theorem spq_long {C : Ch} {sc : Int} {ps : List (Int × Int)} (h : ckC C sc (okFs ps) = 0) (hl : ¬ ps.length ≤ 100) : spqC C sc ps = 3 ∧ spqV C sc ps = [] := by
  have : spqC C sc ps = 3 := by simp [spqC, h, hl]
  exact ⟨this, by simp [spqV, this]⟩
theorem spq_0 {C : Ch} {sc : Int} {ps : List (Int × Int)} (h : ckC C sc (okFs ps) = 0) (hl : ps.length ≤ 100) : spqC C sc ps = pcC C sc ps ∧ spqV C sc ps = pcV C sc ps := by
  have e : spqC C sc ps = pcC C sc ps := by simp [spqC, h, hl]
  refine ⟨e, ?_⟩
  unfold spqV pcV
  rw [e]
  unfold pcC
  split <;> simp_all
/-- The code of the reference's first loop. -/
theorem ck_take {C : Ch} {sc : Int} {ps : List (Int × Int)} {k : Nat} (hk : k < ps.length) : ckC C sc (okFs (ps.take (k + 1))) = if okF ps[k].1 ps[k].2 then ckC C sc (okFs (ps.take k)) else 1 := by
  have e : okFs (ps.take (k + 1)) = (okFs (ps.take k) && okF ps[k].1 ps[k].2) := by
    unfold okFs; rw [List.take_succ_eq_append_getElem hk, List.all_append]; simp
  rw [e]
  cases okF ps[k].1 ps[k].2 <;> simp [ckC]
/-- A fact that the walk does not look into. -/
structure BoxLs (P : Prop) : Prop where
  out : P
theorem cut_Ls {G : Prop} (P : Prop) (k : BoxLs P → G) (h : P) : G := k ⟨h⟩
set_option maxRecDepth 20000 in
set_option maxHeartbeats 4000000 in
theorem ScalePoints_S (C : Ch) (A : Option Addr) (c : Nat) (sc : Int) (B : Option Addr) (d : Nat) (ps : List (Int × Int)) (hn : ps.length ≤ 1048576) (hz : C.zs.length ≤ 1048576) (hm : C.nm.size ≤ 1048576) (w : World) (hA : Ints w A C.zs) (hB : Prs w B ps) :
    Calls Tryz.prog 76 #[.agg #[.int .i64 C.dg, .int .i64 C.tn, .string C.nm, .slice A C.zs.length c, .int .i64 C.wd, .int .i64 C.lf, .int .i64 C.rt], .int .i64 sc, .slice B ps.length d] w (PtsQ 120 (spqV C sc ps) (spqC C sc ps) w) := by
  have HA := Lib.hid hA
  have HB := Lib.hid hB
  have h1000 : okF 1000 0 = true := rfl
  have HC0 := Lib.hid (show ckC C sc (okFs (ps.take 0)) = ckC C sc (okF 1000 0) by simp [okFs, h1000])
  clear hA hB h1000
  go_enter Tryz.func76, Tryz.ntmps76
  go_wp2_with fail
  go_at_call 120; refine (l23Code_c _ _ _ _ _ _ hz hm _ (by repeat (with_reducible first | exact HA.out | assumption | refine Ints.drew ?_ | refine Ints.drewN _ ?_ | refine Ints.alloc _ ?_ | refine Ints.step (by assumption) ?_))).mono ?_; rintro e w1 ⟨rfl, hb1⟩; obtain ⟨hc1, hf1, hz1⟩ := bel hb1; (try simp only [World.size_drew, World.cell?_drew, World.frozen?_drew, World.heap_drewN, World.cell?_drewN, World.frozen?_drewN] at hc1 hf1 hz1); (try have hl1 : w.heap.size < w1.heap.size := zl hb1); (try have hm1 : w.heap.size + 1 < w1.heap.size := zl hb1); (try have hn1 : w.heap.size + 1 + 1 < w1.heap.size := zl hb1); (try have hp1 : b < w1.heap.size := zl hb1); (try have ho1 : b' < w1.heap.size := by (have hq := hb1.size; (try simp at hq); omega))
  rw [← HC0.out]
  have hbel1 : Below w.heap.size w w1 := by repeat (with_reducible first | exact Below.refl _ _ | assumption | refine Bel.alloc ?_ _ | refine Bel.step (by assumption) ?_ | refine Below.drew ?_ | refine Bel.drewN ?_ _ | refine Below.setCell ?_ (by first | exact Nat.le_refl _ | omega | (simp; done) | (simp; omega)) _)
  have BC : Hid (Blk w1 w.heap.size 30 #[.int .i64 C.dg, .int .i64 C.tn, .string C.nm, .slice A C.zs.length c, .int .i64 C.wd, .int .i64 C.lf, .int .i64 C.rt]) := Lib.hid (Blk.step hb1 (Blk.new _ _ _))
  clear hb1 hc1 hf1 hz1
  go_wp2
  go_loopw [8, 9] (fun cd i wr => ∃ k : Nat, k ≤ ps.length ∧ i = .int .i64 k ∧ cd = .int .i64 (ckC C sc (okFs (ps.take k))) ∧ Hid (Blk wr w.heap.size 30 #[.int .i64 C.dg, .int .i64 C.tn, .string C.nm, .slice A C.zs.length c, .int .i64 C.wd, .int .i64 C.lf, .int .i64 C.rt]) ∧ Below w.heap.size w wr) (fun _ i _ => ps.length - (intOf i).toNat)
  case atStart => exact ⟨0, Nat.zero_le _, rfl, rfl, BC, hbel1⟩
  case round =>
    obtain ⟨k, hk, rfl, rfl, HC, hbel⟩ := hrel
    by_cases hlt : k < ps.length
    · obtain ⟨bv, ov, rfl, hbv, v0, v1⟩ := (Prs.step hbel HB.out).at_ k hlt
      have HT := Lib.hid (ck_take (C := C) (sc := sc) hlt)
      generalize ps[k].1 = vd at *
      generalize ps[k].2 = vt at *
      generalize ckC C sc (okFs (ps.take k)) = cd at *
      by_cases hf : okF vd vt = true
      · have HX := Lib.hid (show ckC C sc (okFs (ps.take (k + 1))) = cd by rw [HT.out, hf]; rfl)
        go_wp2_with fail
        go_at_call 68; refine (IsFigure_S _ _ _).mono ?_; rintro e w2 ⟨rfl, hb2⟩; obtain ⟨hc2, hf2, hz2⟩ := bel hb2; (try simp only [World.size_drew, World.cell?_drew, World.frozen?_drew, World.heap_drewN, World.cell?_drewN, World.frozen?_drewN] at hc2 hf2 hz2); (try have hl2 : w.heap.size < w2.heap.size := zl hb2); (try have hm2 : w.heap.size + 1 < w2.heap.size := zl hb2); (try have hn2 : w.heap.size + 1 + 1 < w2.heap.size := zl hb2); (try have hp2 : b < w2.heap.size := zl hb2); (try have ho2 : b' < w2.heap.size := by (have hq := hb2.size; (try simp at hq); omega))
        rw [hf]
        go_wp2
        go_roundw
        case rel => exact ⟨k + 1, by omega, by go_num, by rw [HX.out], Lib.hid (by repeat (with_reducible first | exact HC.out | assumption | refine Blk.alloc _ ?_ | refine Blk.step (by assumption) ?_ | refine Blk.drew ?_ | refine Blk.drewN _ ?_)), by repeat (with_reducible first | exact Below.refl _ _ | assumption | refine Bel.alloc ?_ _ | refine Bel.step (by assumption) ?_ | refine Below.drew ?_ | refine Bel.drewN ?_ _ | refine Below.setCell ?_ (by first | exact Nat.le_refl _ | omega | (simp; done) | (simp; omega)) _)⟩
        case measure => simp [intOf]; omega
      · have hf' : okF vd vt = false := by simpa using hf
        have HX := Lib.hid (show ckC C sc (okFs (ps.take (k + 1))) = 1 by rw [HT.out, hf']; rfl)
        clear hf
        go_wp2_with fail
        go_at_call 68; refine (IsFigure_S _ _ _).mono ?_; rintro e w2 ⟨rfl, hb2⟩; obtain ⟨hc2, hf2, hz2⟩ := bel hb2; (try simp only [World.size_drew, World.cell?_drew, World.frozen?_drew, World.heap_drewN, World.cell?_drewN, World.frozen?_drewN] at hc2 hf2 hz2); (try have hl2 : w.heap.size < w2.heap.size := zl hb2); (try have hm2 : w.heap.size + 1 < w2.heap.size := zl hb2); (try have hn2 : w.heap.size + 1 + 1 < w2.heap.size := zl hb2); (try have hp2 : b < w2.heap.size := zl hb2); (try have ho2 : b' < w2.heap.size := by (have hq := hb2.size; (try simp at hq); omega))
        rw [hf']
        go_wp2
        go_roundw
        case rel => exact ⟨k + 1, by omega, by go_num, by rw [HX.out], Lib.hid (by repeat (with_reducible first | exact HC.out | assumption | refine Blk.alloc _ ?_ | refine Blk.step (by assumption) ?_ | refine Blk.drew ?_ | refine Blk.drewN _ ?_)), by repeat (with_reducible first | exact Below.refl _ _ | assumption | refine Bel.alloc ?_ _ | refine Bel.step (by assumption) ?_ | refine Below.drew ?_ | refine Bel.drewN ?_ _ | refine Below.setCell ?_ (by first | exact Nat.le_refl _ | omega | (simp; done) | (simp; omega)) _)⟩
        case measure => simp [intOf]; omega
    · obtain rfl : k = ps.length := by omega
      rw [List.take_length]
      by_cases hk0 : ckC C sc (okFs ps) = 0
      rotate_left
      · have HQ := Lib.hid (spq_no hk0)
        have b1 : (ckC C sc (okFs ps) != 0) = true := by simpa using hk0
        have b2 : (ckC C sc (okFs ps) == 0) = false := by simpa using hk0
        clear hk0
        go_wp2
        go_ret2
        exact ⟨.slice none 0 0, by rw [HQ.out.1]; rfl, by rw [HQ.out.2]; exact OwnP.nil _ _ _, by repeat (with_reducible first | exact Below.refl _ _ | assumption | refine Bel.alloc ?_ _ | refine Bel.step (by assumption) ?_ | refine Below.drew ?_ | refine Bel.drewN ?_ _ | refine Below.setCell ?_ (by first | exact Nat.le_refl _ | omega | (simp; done) | (simp; omega)) _)⟩
      by_cases hl : ps.length ≤ 100
      rotate_left
      · have HQ := Lib.hid (spq_long hk0 hl)
        rw [hk0]
        clear hk0
        go_wp2
        go_ret2
        exact ⟨.slice none 0 0, by rw [HQ.out.1]; rfl, by rw [HQ.out.2]; exact OwnP.nil _ _ _, by repeat (with_reducible first | exact Below.refl _ _ | assumption | refine Bel.alloc ?_ _ | refine Bel.step (by assumption) ?_ | refine Below.drew ?_ | refine Bel.drewN ?_ _ | refine Below.setCell ?_ (by first | exact Nat.le_refl _ | omega | (simp; done) | (simp; omega)) _)⟩
      have HQ := Lib.hid (spq_0 hk0 hl)
      obtain ⟨h, hp, hs⟩ := ckC_0 hk0
      have HP := Lib.hid hp
      rw [hk0]
      clear hk0 hp
      have hr0 : w.heap.size < wr.heap.size := HC.out.lt
      go_wp2
      go_loopw [10, 11, 12, 13] (fun v i _ _ wr2 => ∃ k : Nat, k ≤ ps.length ∧ i = .int .i64 k ∧ Hid ((ps.take k).all (ptOk C sc) = true) ∧ OwnP wr2 (w.heap.size + 1) 120 v ((ps.take k).map (ptOf C sc)) ∧ Hid (Blk wr2 w.heap.size 30 #[.int .i64 C.dg, .int .i64 C.tn, .string C.nm, .slice A C.zs.length c, .int .i64 C.wd, .int .i64 C.lf, .int .i64 C.rt]) ∧ Below w.heap.size w wr2) (fun _ i _ _ _ => ps.length - (intOf i).toNat)
      case atStart =>
        have hO := OwnP.new wr (w.heap.size + 1) 120 (by omega)
        exact ⟨0, Nat.zero_le _, rfl, Lib.hid rfl, hO, Lib.hid (Blk.alloc _ HC.out), by repeat (with_reducible first | exact Below.refl _ _ | assumption | refine Bel.alloc ?_ _ | refine Bel.step (by assumption) ?_ | refine Below.drew ?_ | refine Bel.drewN ?_ _ | refine Below.setCell ?_ (by first | exact Nat.le_refl _ | omega | (simp; done) | (simp; omega)) _)⟩
      case round =>
        obtain ⟨k, hk, rfl, HOK, hO, HC, hbel⟩ := hrel
        by_cases hlt : k < ps.length
        · obtain ⟨bv, ov, rfl, hbv, v0, v1⟩ := (Prs.step hbel HB.out).at_ k hlt
          have hf : okF ps[k].1 ps[k].2 = true := by simpa using List.all_eq_true.1 HP.out _ (List.getElem_mem hlt)
          have hck : ckC C sc (okF ps[k].1 ps[k].2) = 0 := by simp [ckC, h, hf, hs]
          have HPP := Lib.hid (pt_pp hck)
          have HT := Lib.hid (show (ps.take (k + 1)).map (ptOf C sc) = (ps.take k).map (ptOf C sc) ++ [(ppX C sc ps[k].1 ps[k].2, ppY C sc ps[k].1 ps[k].2)] by rw [List.take_succ_eq_append_getElem hlt, List.map_append]; rfl)
          have HS := Lib.hid (fun hx : plC C sc ps[k].1 ps[k].2 = 0 => all_step (ptOk C sc) hlt HOK.out (by simp [ptOk, hx]))
          have HN := Lib.hid (fun hx : plC C sc ps[k].1 ps[k].2 ≠ 0 => all_no (ptOk C sc) hlt (by simp [ptOk, hx]))
          have hl' : ((ps.take k).map (ptOf C sc)).length ≤ 1000000000 := by simp; omega
          have HL := Lib.hid hl'
          have c0 : wr.cell? ⟨w.heap.size, 0, none⟩ = some (.int .i64 C.dg) := by rw [HC.out.cell]; rfl
          have c1 : wr.cell? ⟨w.heap.size, 1, none⟩ = some (.int .i64 C.tn) := by rw [HC.out.cell]; rfl
          have c2 : wr.cell? ⟨w.heap.size, 2, none⟩ = some (.string C.nm) := by rw [HC.out.cell]; rfl
          have c3 : wr.cell? ⟨w.heap.size, 3, none⟩ = some (.slice A C.zs.length c) := by rw [HC.out.cell]; rfl
          have c4 : wr.cell? ⟨w.heap.size, 4, none⟩ = some (.int .i64 C.wd) := by rw [HC.out.cell]; rfl
          have c5 : wr.cell? ⟨w.heap.size, 5, none⟩ = some (.int .i64 C.lf) := by rw [HC.out.cell]; rfl
          have c6 : wr.cell? ⟨w.heap.size, 6, none⟩ = some (.int .i64 C.rt) := by rw [HC.out.cell]; rfl
          have clt : w.heap.size < wr.heap.size := HC.out.lt
          have HIr := Lib.hid (Ints.step hbel HA.out)
          clear hf hck hl' hr0
          generalize ps[k].1 = vd at *
          generalize ps[k].2 = vt at *
          go_wp2
          apply cut_Ls
          · intro key
            go_region_held3 (fun w' => (w'.cell? ⟨w.heap.size, 0, none⟩ = some (.int .i64 C.dg) ∧ w'.cell? ⟨w.heap.size, 1, none⟩ = some (.int .i64 C.tn) ∧ w'.cell? ⟨w.heap.size, 2, none⟩ = some (.string C.nm) ∧ w'.cell? ⟨w.heap.size, 3, none⟩ = some (.slice A C.zs.length c) ∧ w'.cell? ⟨w.heap.size, 4, none⟩ = some (.int .i64 C.wd) ∧ w'.cell? ⟨w.heap.size, 5, none⟩ = some (.int .i64 C.lf) ∧ w'.cell? ⟨w.heap.size, 6, none⟩ = some (.int .i64 C.rt)) ∧ w'.cell? ⟨bv, ov + k * 2, none⟩ = some (.int .i64 vd) ∧ w'.cell? ⟨bv, ov + k * 2 + 1, none⟩ = some (.int .i64 vt)) (simp [go_sem, *])
                (first | (go_at_call 121; refine (ChartPoint_S _ _ _ _ _ _ hz hm _ (by repeat (with_reducible first | exact HIr.out | assumption | refine Ints.drew ?_ | refine Ints.drewN _ ?_ | refine Ints.alloc _ ?_ | refine Ints.step (by assumption) ?_))).mono ?_; rintro e wx ⟨rfl, hbx⟩; obtain ⟨hcx, hfx, hzx⟩ := bel hbx; (try simp only [World.size_drew, World.cell?_drew, World.frozen?_drew, World.heap_drewN, World.cell?_drewN, World.frozen?_drewN] at hcx hfx hzx); (try have hlx : w.heap.size < wx.heap.size := zl hbx); (try have hmx : w.heap.size + 1 < wx.heap.size := zl hbx); (try have hnx : w.heap.size + 1 + 1 < wx.heap.size := zl hbx); (try have hpx : b < wx.heap.size := zl hbx); (try have hox : b' < wx.heap.size := by (have hq := hbx.size; (try simp at hq); omega)); (try (have ylxwr : wr.heap.size < wx.heap.size := hzx _ (by first | assumption | (simp; done)); have ycxwr0 : wx.cell? ⟨wr.heap.size, 0, none⟩ = some (.int .i64 0) := (hcx _ _ (by first | assumption | (simp; done))).trans (by first | assumption | (simp [go_sem]; done)); have ycxwr1 : wx.cell? ⟨wr.heap.size, 1, none⟩ = some (.int .i64 0) := (hcx _ _ (by first | assumption | (simp; done))).trans (by first | assumption | (simp [go_sem]; done)); have yfxwr0 : wx.frozen? ⟨wr.heap.size, 0, none⟩ = false := (hfx _ _ (by first | assumption | (simp; done))).trans (by first | assumption | (simp [go_sem]; done)); have yfxwr1 : wx.frozen? ⟨wr.heap.size, 1, none⟩ = false := (hfx _ _ (by first | assumption | (simp; done))).trans (by first | assumption | (simp [go_sem]; done)))); (try have yyxbv : bv < wx.heap.size := hzx _ (by first | assumption | (simp; done) | (simp; omega)))))
            · generalize hW : wx.alloc (.cells #[.int .i64 (ptX C sc vd vt), .int .i64 (ptY C sc vd vt)] 120) = W
              have hbW : Below wr.heap.size wr W := by rw [← hW]; repeat (with_reducible first | exact Below.refl _ _ | assumption | refine Bel.alloc ?_ _ | refine Bel.step (by assumption) ?_ | refine Below.drew ?_ | refine Bel.drewN ?_ _ | refine Below.setCell ?_ (by first | exact Nat.le_refl _ | omega | (simp; done) | (simp; omega)) _)
              have b0 : W.cell? ⟨wx.heap.size, 0, none⟩ = some (.int .i64 (ptX C sc vd vt)) := by rw [← hW]; simp [go_sem]
              have b1 : W.cell? ⟨wx.heap.size, 1, none⟩ = some (.int .i64 (ptY C sc vd vt)) := by rw [← hW]; simp [go_sem]
              have hB' : wx.heap.size < W.heap.size := by rw [← hW]; simp
              clear hW
              generalize wx.heap.size = Bk at b0 b1 hB' ⊢
              revert hbW b0 b1 hB'
              revert W Bk
              exact key.out
            all_goals
              refine key.out _ _ ?_ ?_ ?_ ?_
              · repeat (with_reducible first | exact Below.refl _ _ | assumption | refine Bel.alloc ?_ _ | refine Bel.step (by assumption) ?_ | refine Below.drew ?_ | refine Bel.drewN ?_ _ | refine Below.setCell ?_ (by first | exact Nat.le_refl _ | omega | (simp; done) | (simp; omega)) _)
              all_goals first | (simp [go_sem, *]; done) | (simp; omega) | omega
          · intro W Bk hbW b0 b1 hB'
            have hbelW := Bel.step hbW hbel
            have hOW := OwnP.step hbW hO
            have HCW := Lib.hid (Blk.step hbW HC.out)
            have hsW : w.heap.size + 1 ≤ W.heap.size := by have := HCW.out.lt; omega
            clear hbW c0 c1 c2 c3 c4 c5 c6 clt hO v0 v1 HIr
            rw [HPP.out.1] at b0
            rw [HPP.out.2.1] at b1
            rw [HPP.out.2.2]
            by_cases hc : plC C sc vd vt = 0
            · have HY := Lib.hid (HS.out hc)
              rw [hc]
              clear hc
              generalize ppX C sc vd vt = X at *
              generalize ppY C sc vd vt = Y at *
              go_wp2_with (at_builtin; refine wpList_app1P rfl _ _ 99 rfl (w.heap.size + 1) 120 _ Tryz.underlying99 infoPt (by rfl) _ _ (X, Y) rfl (OwnP.alloc _ hOW) W.heap.size rfl (by simp [go_sem]) (by simp [go_sem]) HL.out (by simp; omega) ?_; intro v2 w2 hO3 hb2)
              have HC3 := Lib.hid ((hb2.block _ (by omega)).trans (Blk.alloc (.cells #[.int .i64 X, .int .i64 Y] 120) HCW.out))
              have hbel2 : Below w.heap.size w w2 := (show Below w.heap.size w (W.alloc (.cells #[.int .i64 X, .int .i64 Y] 120)) by repeat (with_reducible first | exact Below.refl _ _ | assumption | refine Bel.alloc ?_ _ | refine Bel.step (by assumption) ?_ | refine Below.drew ?_ | refine Bel.drewN ?_ _ | refine Below.setCell ?_ (by first | exact Nat.le_refl _ | omega | (simp; done) | (simp; omega)) _)).trans (hb2.mono (by omega))
              go_wp2
              go_roundw
              case rel => exact ⟨k + 1, by omega, by go_num, HY, by rw [HT.out]; exact hO3, HC3, hbel2⟩
              case measure => simp [intOf]; omega
            · have HX := Lib.hid (show pcC C sc ps = 3 ∧ pcV C sc ps = [] by have := HN.out hc; simp [pcC, pcV, this])
              rw [(pl_3 hc).1]
              clear hc
              go_wp2
              go_ret2
              exact ⟨.slice none 0 0, by rw [HQ.out.1, HX.out.1]; rfl, by rw [HQ.out.2, HX.out.2]; exact OwnP.nil _ _ _, by repeat (with_reducible first | exact Below.refl _ _ | assumption | refine Bel.alloc ?_ _ | refine Bel.step (by assumption) ?_ | refine Below.drew ?_ | refine Bel.drewN ?_ _ | refine Below.setCell ?_ (by first | exact Nat.le_refl _ | omega | (simp; done) | (simp; omega)) _)⟩
        · obtain rfl : k = ps.length := by omega
          have HX := Lib.hid (show pcC C sc ps = 0 ∧ pcV C sc ps = (ps.take ps.length).map (ptOf C sc) by have := HOK.out; rw [List.take_length] at this ⊢; simp [pcC, pcV, this])
          go_wp2
          go_ret2
          exact ⟨_, by rw [HQ.out.1, HX.out.1]; rfl, by rw [HQ.out.2, HX.out.2]; exact OwnP.ge_mono hO (by omega), by repeat (with_reducible first | exact Below.refl _ _ | assumption | refine Bel.alloc ?_ _ | refine Bel.step (by assumption) ?_ | refine Below.drew ?_ | refine Bel.drewN ?_ _ | refine Below.setCell ?_ (by first | exact Nat.le_refl _ | omega | (simp; done) | (simp; omega)) _)⟩
end Go.Proofs.YtpmcgicopogbhaaGreat
