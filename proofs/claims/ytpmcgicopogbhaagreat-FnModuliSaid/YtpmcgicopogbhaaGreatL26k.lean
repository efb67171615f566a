/- The heights of a layout, of the reference. Conditions: as stated at each contract. -/
import Derived.Test.YtpmcgicopogbhaaGreatProg
import Derived.Test.YtpmcgicopogbhaaGreatBase
import Derived.Test.YtpmcgicopogbhaaGreatZy
import Derived.Test.YtpmcgicopogbhaaGreatRw
import Derived.Test.YtpmcgicopogbhaaGreatL01
import Derived.Test.YtpmcgicopogbhaaGreatCp
import Derived.Test.YtpmcgicopogbhaaGreatL18
import Derived.Test.YtpmcgicopogbhaaGreatL23
import Derived.Test.YtpmcgicopogbhaaGreatL03
import Derived.Test.YtpmcgicopogbhaaGreatL04
import Derived.Test.YtpmcgicopogbhaaGreatL23d
import Derived.Test.YtpmcgicopogbhaaGreatL23e
import Derived.Test.YtpmcgicopogbhaaGreatL24
import Derived.Test.YtpmcgicopogbhaaGreatL24b
import Derived.Test.YtpmcgicopogbhaaGreatL24c
import Derived.Test.YtpmcgicopogbhaaGreatL24f
import Derived.Test.YtpmcgicopogbhaaGreatL24g
import Derived.Test.YtpmcgicopogbhaaGreatL24r
import Derived.Test.YtpmcgicopogbhaaGreatL23g
import Derived.Test.YtpmcgicopogbhaaGreatL23h
import Derived.Test.YtpmcgicopogbhaaGreatL26a
import Derived.Test.YtpmcgicopogbhaaGreatL26b
import Derived.Test.YtpmcgicopogbhaaGreatL26h
import Derived.WalkKit
import Derived.WalkSpells
import Derived.WalkLawsBesides
import Derived.Lib.Hide
import Derived.Deep.QuietTactic
import Derived.BigQuiet
import Derived.Deep.Draws
import Derived.Deep.RegionHeld3
import Derived.Deep.AppendLies
namespace Go.Proofs.YtpmcgicopogbhaaGreat
open Go.RowKit
set_option linter.unusedVariables false
set_option linter.unusedSimpArgs false
theorem own_btw'' {w : World} {B : Nat} {T : TypeId} {v : Value} {zs : List Int} (h : Own w B T v zs) : v.ownBlock ≠ some w.heap.size := fun e => Nat.lt_irrefl _ (h.lt _ e).2
theorem own_btw' {w w' : World} {B B' : Nat} {T T' : TypeId} {v : Value} {g c n : Nat} {zs : List Int} {ps : List (Int × Int)} (h : Own w B T v zs) (h' : OwnP w' B' T' (.slice (some ⟨g, 0, none⟩) n c) ps) (hB : w.heap.size ≤ B') : v.ownBlock ≠ some g := fun e => by
  have h1 := (h.lt g e).2
  have h2 := (h'.lt g rfl).1
  omega
theorem spq_ok {C : Ch} {sc : Int} {ps : List (Int × Int)} (h : okCh C = true) (hp : okFs ps = true) (hs : inB sc 0 2 = true) (hl : ps.length ≤ 100) : spqC C sc ps = pcC C sc ps ∧ spqV C sc ps = pcV C sc ps := by
  have h1 : ckC C sc (okFs ps) = 0 := by rw [hp]; simp [ckC, h, hs]
  have h2 : spqC C sc ps = pcC C sc ps := by simp [spqC, h1, hl]
  refine ⟨h2, ?_⟩
  unfold spqV
  rw [h2]
  unfold pcC pcV
  split <;> simp_all
/-- The heights of the points so far. -/
def hS (C : Ch) (us vs : List (Int × Int)) : Nat → List Int
  | 0 => []
  | 1 => (us.map (ptOf C 0)).map (·.2)
  | _ => hY C us vs
theorem hS_2 (C : Ch) (us vs : List (Int × Int)) : hS C us vs 2 = hS C us vs 1 ++ (vs.map (ptOf C 1)).map (·.2) := by
  show hY C us vs = _
  unfold hY
  rw [List.map_append]
  rfl
set_option maxRecDepth 50000 in
set_option maxHeartbeats 4000000 in
theorem l26Height_c (C : Ch) (A : Option Addr) (c : Nat) (D : Option Addr) (d : Nat) (us : List (Int × Int)) (E : Option Addr) (f : Nat) (vs : List (Int × Int)) (hn : C.zs.length ≤ 1048576) (hm : C.nm.size ≤ 1048576) (h : okCh C = true) (hu : okFs us = true) (hv : okFs vs = true) (lu0 : 1 ≤ us.length) (lu : us.length ≤ 12) (lv0 : 1 ≤ vs.length) (lv : vs.length ≤ 12) (w : World) (hA : Ints w A C.zs) (hD : Prs w D us) (hE : Prs w E vs) :
    Calls Tryz.prog 87 #[.agg #[.int .i64 C.dg, .int .i64 C.tn, .string C.nm, .slice A C.zs.length c, .int .i64 C.wd, .int .i64 C.lf, .int .i64 C.rt], .slice D us.length d, .slice E vs.length f] w fun r w' => r = .returned (.tuple #[.int .i64 (htV C us vs), .int .i64 (htC C us vs)]) ∧ Below w.heap.size w w' := by
  have HI := Lib.hid hA
  have HD := Lib.hid hD
  have HE := Lib.hid hE
  have H := Lib.hid h
  have HU := Lib.hid hu
  have HV := Lib.hid hv
  clear hA hD hE h hu hv
  go_enter Tryz.func87, Tryz.ntmps87
  go_wp2
  go_loopw [8, 9, 10, 11, 12, 13] (fun v s _ _ _ _ wr => ∃ k : Nat, k ≤ 2 ∧ s = .int .i64 k ∧ Own wr (w.heap.size + 1) 2 v (hS C us vs k) ∧ Hid (1 ≤ k → us.all (ptOk C 0) = true) ∧ Hid (2 ≤ k → vs.all (ptOk C 1) = true) ∧ Hid (Blk wr w.heap.size 30 #[.int .i64 C.dg, .int .i64 C.tn, .string C.nm, .slice A C.zs.length c, .int .i64 C.wd, .int .i64 C.lf, .int .i64 C.rt]) ∧ Below w.heap.size w wr) (fun _ s _ _ _ _ _ => 2 - (intOf s).toNat)
  case atStart =>
    have hO := Own.new (w.alloc (.cells #[.int .i64 C.dg, .int .i64 C.tn, .string C.nm, .slice A C.zs.length c, .int .i64 C.wd, .int .i64 C.lf, .int .i64 C.rt] 30)) (w.heap.size + 1) 2 (by simp)
    simp only [World.size_alloc] at hO
    exact ⟨0, by omega, rfl, hO, Lib.hid (fun h => by omega), Lib.hid (fun h => by omega), Lib.hid (Blk.alloc _ (Blk.new _ _ _)), by repeat (with_reducible first | exact Below.refl _ _ | assumption | refine Bel.alloc ?_ _ | refine Bel.step (by assumption) ?_ | refine Below.drew ?_ | refine Bel.drewN ?_ _ | refine Below.setCell ?_ (by first | exact Nat.le_refl _ | omega | (simp; done) | (simp; omega)) _)⟩
  case round =>
    obtain ⟨k, hk, rfl, hO, H0, H1, HC, hbel⟩ := hrel
    by_cases hs0 : k = 0
    · subst hs0
      have HQ := Lib.hid (spq_ok (sc := 0) H.out HU.out rfl (by omega : us.length ≤ 100))
      have p0 : wr.cell? ⟨w.heap.size, 0, none⟩ = some (.int .i64 C.dg) := by rw [HC.out.cell]; rfl
      have p1 : wr.cell? ⟨w.heap.size, 1, none⟩ = some (.int .i64 C.tn) := by rw [HC.out.cell]; rfl
      have p2 : wr.cell? ⟨w.heap.size, 2, none⟩ = some (.string C.nm) := by rw [HC.out.cell]; rfl
      have p3 : wr.cell? ⟨w.heap.size, 3, none⟩ = some (.slice A C.zs.length c) := by rw [HC.out.cell]; rfl
      have p4 : wr.cell? ⟨w.heap.size, 4, none⟩ = some (.int .i64 C.wd) := by rw [HC.out.cell]; rfl
      have p5 : wr.cell? ⟨w.heap.size, 5, none⟩ = some (.int .i64 C.lf) := by rw [HC.out.cell]; rfl
      have p6 : wr.cell? ⟨w.heap.size, 6, none⟩ = some (.int .i64 C.rt) := by rw [HC.out.cell]; rfl
      have clt := HC.out.lt
      have HIr := Lib.hid (Ints.step hbel HI.out)
      have HPr := Lib.hid (Prs.step hbel HD.out)
      have HOr := Lib.hid hO
      clear hO
      go_wp2_with fail
      go_at_call 76; refine (ScalePoints_S C A c 0 D d us (by omega) hn hm _ HIr.out HPr.out).mono ?_; rintro r w1 ⟨v1, rfl, hO1, hb1⟩
      have HC1 := Lib.hid (Blk.step hb1 HC.out)
      have HO1 := Lib.hid (Own.step hb1 HOr.out)
      have hbel1 := Bel.step hb1 hbel
      have s1 := hb1.size
      rw [HQ.out.2] at hO1
      rw [HQ.out.1]
      clear hb1 p0 p1 p2 p3 p4 p5 p6 HC HQ
      cases h0 : us.all (ptOk C 0)
      · have HX := Lib.hid (ht_p0 (vs := vs) h0)
        rw [show pcC C 0 us = 3 by simp [pcC, h0]]
        clear h0
        go_wp2
        go_ret2
        exact ⟨by rw [HX.out.1, HX.out.2]; rfl, by repeat (with_reducible first | exact Below.refl _ _ | assumption | refine Bel.alloc ?_ _ | refine Bel.step (by assumption) ?_ | refine Below.drew ?_ | refine Bel.drewN ?_ _ | refine Below.setCell ?_ (by first | exact Nat.le_refl _ | omega | (simp; done) | (simp; omega)) _)⟩
      rw [show pcC C 0 us = 0 by simp [pcC, h0]]
      rw [show pcV C 0 us = us.map (ptOf C 0) by simp [pcV, h0]] at hO1
      have HY := Lib.hid h0
      clear h0
      obtain ⟨ps, hps⟩ : ∃ ps, ps = us.map (ptOf C 0) := ⟨_, rfl⟩
      rw [← hps] at hO1
      have hp12 : ps.length ≤ 12 := by rw [hps]; simpa using lu
      have HPS := Lib.hid hps
      clear hps
      obtain ⟨A3, c3, rfl, _, _, hP3, hf3⟩ := hO1.form
      have hpos : 0 < ps.length := by rw [HPS.out]; simp; omega
      obtain ⟨g3, cur3, rfl, hge3, hB3, _, _⟩ := hf3 hpos
      have HN0 := Lib.hid (own_btw' HOr.out hO1 (Nat.le_refl _))
      have HP3 := Lib.hid hP3
      clear hO1 hP3 hf3 hB3 HOr
      go_wp2
      go_loopw [8, 13] (fun v i wq => ∃ j : Nat, j ≤ ps.length ∧ i = .int .i64 j ∧ Own wq (w.heap.size + 1) 2 v (hS C us vs 0 ++ (ps.take j).map (·.2)) ∧ Hid (v.ownBlock ≠ some g3) ∧ Hid (Prs wq (some ⟨g3, 0, none⟩) ps) ∧ Hid (Blk wq w.heap.size 30 #[.int .i64 C.dg, .int .i64 C.tn, .string C.nm, .slice A C.zs.length c, .int .i64 C.wd, .int .i64 C.lf, .int .i64 C.rt]) ∧ Below w.heap.size w wq) (fun _ i _ => ps.length - (intOf i).toNat)
      case atStart => exact ⟨0, Nat.zero_le _, rfl, by simpa using HO1.out, HN0, HP3, HC1, hbel1⟩
      case round =>
        clear HO1 HN0 HP3 HC1 hbel1 hbel
        obtain ⟨j, hj, rfl, hO, HN, HP, HC, hbel⟩ := hrel
        have HO := Lib.hid hO
        clear hO
        by_cases hlt : j < ps.length
        rotate_left
        · obtain rfl : j = ps.length := by omega
          have HO9 := Lib.hid (show Own _ (w.heap.size + 1) 2 _ (hS C us vs 1) from by have := HO.out; rw [List.take_length, HPS.out] at this; simpa [hS] using this)
          go_wp2
          go_roundw
          case rel => exact ⟨1, by omega, by go_num, HO9.out, Lib.hid (fun _ => HY.out), Lib.hid (fun h => by omega), HC, hbel⟩
          case measure => simp [intOf]
        obtain ⟨b, o, e, hb, c0, c1⟩ := HP.out.at_ j hlt
        cases e
        simp only [Nat.zero_add] at c0 c1
        have HT := Lib.hid (show hS C us vs 0 ++ (ps.take (j + 1)).map (·.2) = hS C us vs 0 ++ (ps.take j).map (·.2) ++ [ps[j].2] by rw [List.take_succ_eq_append_getElem hlt, List.map_append, List.append_assoc]; rfl)
        generalize ps[j].1 = px at *
        generalize ps[j].2 = py at *
        have hlk : (hS C us vs 0 ++ (ps.take j).map (·.2)).length ≤ 100 := by simp [hS]; omega
        have HLK := Lib.hid hlk
        have clt := HC.out.lt
        have HBy := Lib.hid (Blk.new wr 2 #[.int .i64 py])
        clear hlk
        go_wp2_with (at_builtin; refine wpList_appNL rfl _ _ 26 rfl (w.heap.size + 1) 2 Tryz.underlying26 info64 _ _ rfl (Own.alloc _ HO.out) wr.heap.size 1 1 #[.int .i64 py] 2 HBy.out (by rfl) [py] rfl rfl (by omega) (by have := HLK.out; omega) (by simp; omega) ?_; intro v4 w4 hO4 hg4 hq4)
        have H4 := Lib.hid (show Own w4 (w.heap.size + 1) 2 v4 (hS C us vs 0 ++ (ps.take (j + 1)).map (·.2)) by rw [HT.out]; exact hO4)
        have hN4 := Lib.hid (show v4.ownBlock ≠ some g3 from fun e => by
          rcases hq4 g3 e with e | e
          · exact HN.out e
          · simp only [World.size_alloc] at e; omega)
        have HP4 := Lib.hid (Prs.grown hg4 hg4.size HN.out (Prs.step (Bel.alloc (Below.refl _ _) _) HP.out))
        have HC4 := Lib.hid (Blk.grown (Blk.alloc _ HC.out) hg4 (fun e => by have := (HO.out.lt _ e.symm).1; omega))
        have hbel4 := Bel.grown (Bel.alloc hbel _) hg4 (fun k hk => by have := (HO.out.lt _ hk).1; omega)
        clear hO4 hg4 hq4 HP HC HO hbel c0 c1 HN HBy
        go_wp2
        go_roundw
        case rel => exact ⟨j + 1, by omega, by go_num, H4.out, hN4, HP4, HC4, hbel4⟩
        case measure => simp [intOf]; omega
    by_cases hs1 : k = 1
    · subst hs1
      have HQ := Lib.hid (spq_ok (sc := 1) H.out HV.out rfl (by omega : vs.length ≤ 100))
      have p0 : wr.cell? ⟨w.heap.size, 0, none⟩ = some (.int .i64 C.dg) := by rw [HC.out.cell]; rfl
      have p1 : wr.cell? ⟨w.heap.size, 1, none⟩ = some (.int .i64 C.tn) := by rw [HC.out.cell]; rfl
      have p2 : wr.cell? ⟨w.heap.size, 2, none⟩ = some (.string C.nm) := by rw [HC.out.cell]; rfl
      have p3 : wr.cell? ⟨w.heap.size, 3, none⟩ = some (.slice A C.zs.length c) := by rw [HC.out.cell]; rfl
      have p4 : wr.cell? ⟨w.heap.size, 4, none⟩ = some (.int .i64 C.wd) := by rw [HC.out.cell]; rfl
      have p5 : wr.cell? ⟨w.heap.size, 5, none⟩ = some (.int .i64 C.lf) := by rw [HC.out.cell]; rfl
      have p6 : wr.cell? ⟨w.heap.size, 6, none⟩ = some (.int .i64 C.rt) := by rw [HC.out.cell]; rfl
      have clt := HC.out.lt
      have HIr := Lib.hid (Ints.step hbel HI.out)
      have HPr := Lib.hid (Prs.step hbel HE.out)
      have HOr := Lib.hid hO
      clear hO
      go_wp2_with fail
      go_at_call 76; refine (ScalePoints_S C A c 1 E f vs (by omega) hn hm _ HIr.out HPr.out).mono ?_; rintro r w1 ⟨v1, rfl, hO1, hb1⟩
      have HC1 := Lib.hid (Blk.step hb1 HC.out)
      have HO1 := Lib.hid (Own.step hb1 HOr.out)
      have hbel1 := Bel.step hb1 hbel
      have s1 := hb1.size
      rw [HQ.out.2] at hO1
      rw [HQ.out.1]
      clear hb1 p0 p1 p2 p3 p4 p5 p6 HC HQ
      cases h0 : vs.all (ptOk C 1)
      · have HX := Lib.hid (ht_p1 (us := us) h0)
        rw [show pcC C 1 vs = 3 by simp [pcC, h0]]
        clear h0
        go_wp2
        go_ret2
        exact ⟨by rw [HX.out.1, HX.out.2]; rfl, by repeat (with_reducible first | exact Below.refl _ _ | assumption | refine Bel.alloc ?_ _ | refine Bel.step (by assumption) ?_ | refine Below.drew ?_ | refine Bel.drewN ?_ _ | refine Below.setCell ?_ (by first | exact Nat.le_refl _ | omega | (simp; done) | (simp; omega)) _)⟩
      rw [show pcC C 1 vs = 0 by simp [pcC, h0]]
      rw [show pcV C 1 vs = vs.map (ptOf C 1) by simp [pcV, h0]] at hO1
      have HY := Lib.hid h0
      clear h0
      obtain ⟨ps, hps⟩ : ∃ ps, ps = vs.map (ptOf C 1) := ⟨_, rfl⟩
      rw [← hps] at hO1
      have hp12 : ps.length ≤ 12 := by rw [hps]; simpa using lv
      have HPS := Lib.hid hps
      clear hps
      obtain ⟨A3, c3, rfl, _, _, hP3, hf3⟩ := hO1.form
      have hpos : 0 < ps.length := by rw [HPS.out]; simp; omega
      obtain ⟨g3, cur3, rfl, hge3, hB3, _, _⟩ := hf3 hpos
      have HN0 := Lib.hid (own_btw' HOr.out hO1 (Nat.le_refl _))
      have HP3 := Lib.hid hP3
      clear hO1 hP3 hf3 hB3 HOr
      go_wp2
      go_loopw [8, 13] (fun v i wq => ∃ j : Nat, j ≤ ps.length ∧ i = .int .i64 j ∧ Own wq (w.heap.size + 1) 2 v (hS C us vs 1 ++ (ps.take j).map (·.2)) ∧ Hid (v.ownBlock ≠ some g3) ∧ Hid (Prs wq (some ⟨g3, 0, none⟩) ps) ∧ Hid (Blk wq w.heap.size 30 #[.int .i64 C.dg, .int .i64 C.tn, .string C.nm, .slice A C.zs.length c, .int .i64 C.wd, .int .i64 C.lf, .int .i64 C.rt]) ∧ Below w.heap.size w wq) (fun _ i _ => ps.length - (intOf i).toNat)
      case atStart => exact ⟨0, Nat.zero_le _, rfl, by simpa using HO1.out, HN0, HP3, HC1, hbel1⟩
      case round =>
        clear HO1 HN0 HP3 HC1 hbel1 hbel
        obtain ⟨j, hj, rfl, hO, HN, HP, HC, hbel⟩ := hrel
        have HO := Lib.hid hO
        clear hO
        by_cases hlt : j < ps.length
        rotate_left
        · obtain rfl : j = ps.length := by omega
          have HO9 := Lib.hid (show Own _ (w.heap.size + 1) 2 _ (hS C us vs 2) from by have := HO.out; rw [List.take_length, HPS.out] at this; rw [hS_2]; exact this)
          go_wp2
          go_roundw
          case rel => exact ⟨2, by omega, by go_num, HO9.out, Lib.hid (fun _ => H0.out (by omega)), Lib.hid (fun _ => HY.out), HC, hbel⟩
          case measure => simp [intOf]
        obtain ⟨b, o, e, hb, c0, c1⟩ := HP.out.at_ j hlt
        cases e
        simp only [Nat.zero_add] at c0 c1
        have HT := Lib.hid (show hS C us vs 1 ++ (ps.take (j + 1)).map (·.2) = hS C us vs 1 ++ (ps.take j).map (·.2) ++ [ps[j].2] by rw [List.take_succ_eq_append_getElem hlt, List.map_append, List.append_assoc]; rfl)
        generalize ps[j].1 = px at *
        generalize ps[j].2 = py at *
        have hlk : (hS C us vs 1 ++ (ps.take j).map (·.2)).length ≤ 100 := by simp [hS]; omega
        have HLK := Lib.hid hlk
        have clt := HC.out.lt
        have HBy := Lib.hid (Blk.new wr 2 #[.int .i64 py])
        clear hlk
        go_wp2_with (at_builtin; refine wpList_appNL rfl _ _ 26 rfl (w.heap.size + 1) 2 Tryz.underlying26 info64 _ _ rfl (Own.alloc _ HO.out) wr.heap.size 1 1 #[.int .i64 py] 2 HBy.out (by rfl) [py] rfl rfl (by omega) (by have := HLK.out; omega) (by simp; omega) ?_; intro v4 w4 hO4 hg4 hq4)
        have H4 := Lib.hid (show Own w4 (w.heap.size + 1) 2 v4 (hS C us vs 1 ++ (ps.take (j + 1)).map (·.2)) by rw [HT.out]; exact hO4)
        have hN4 := Lib.hid (show v4.ownBlock ≠ some g3 from fun e => by
          rcases hq4 g3 e with e | e
          · exact HN.out e
          · simp only [World.size_alloc] at e; omega)
        have HP4 := Lib.hid (Prs.grown hg4 hg4.size HN.out (Prs.step (Bel.alloc (Below.refl _ _) _) HP.out))
        have HC4 := Lib.hid (Blk.grown (Blk.alloc _ HC.out) hg4 (fun e => by have := (HO.out.lt _ e.symm).1; omega))
        have hbel4 := Bel.grown (Bel.alloc hbel _) hg4 (fun k hk => by have := (HO.out.lt _ hk).1; omega)
        clear hO4 hg4 hq4 HP HC HO hbel c0 c1 HN HBy
        go_wp2
        go_roundw
        case rel => exact ⟨j + 1, by omega, by go_num, H4.out, hN4, HP4, HC4, hbel4⟩
        case measure => simp [intOf]; omega
    obtain rfl : k = 2 := by omega
    rw [show ((2 : Nat) : Int) = 2 from rfl]
    have HX0 := Lib.hid (H0.out (by omega))
    have HX1 := Lib.hid (H1.out (by omega))
    rw [show hS C us vs 2 = hY C us vs ++ hAl C us vs 0 by simp [hAl, hS]] at hO
    have hOy := hO
    have hyl : (hY C us vs).length ≤ 24 := by simp [hY]; omega
    have HYL := Lib.hid hyl
    clear hO hyl H0 H1 hs0 hs1 hk
    go_wp2
    go_loopw [8, 14, 15, 16, 17] (fun v i _ _ _ wr => ∃ k : Nat, k ≤ us.length ∧ i = .int .i64 k ∧ Own wr (w.heap.size + 1) 2 v (hY C us vs ++ hAl C us vs k) ∧ Hid (wOk C (us.take k) vs = true) ∧ Hid (Blk wr w.heap.size 30 #[.int .i64 C.dg, .int .i64 C.tn, .string C.nm, .slice A C.zs.length c, .int .i64 C.wd, .int .i64 C.lf, .int .i64 C.rt]) ∧ Below w.heap.size w wr) (fun _ i _ _ _ _ => us.length - (intOf i).toNat)
    case atStart => exact ⟨0, Nat.zero_le _, rfl, hOy, Lib.hid rfl, HC, hbel⟩
    case round =>
      clear hOy HC hbel
      obtain ⟨k, hk, rfl, hO, HW, HC, hbel⟩ := hrel
      by_cases hlt : k < us.length
      rotate_left
      · obtain rfl : k = us.length := by omega
        obtain ⟨A9, c9, rfl, _, _, hI9, _⟩ := hO.form
        clear hO
        rw [show hY C us vs ++ hAl C us vs us.length = hL C us vs from rfl] at hI9 ⊢
        have HT := Lib.hid (ht_0 HX0.out HX1.out (by have := HW.out; rw [List.take_length] at this; exact this))
        have HBd := Lib.hid (hL_bd H.out HX0.out HX1.out (by have := HW.out; rw [List.take_length] at this; exact this))
        have hll : (hL C us vs).length ≤ 1048576 ∧ 0 < (hL C us vs).length := by
          have h1 := hAl_len C us vs us.length (Nat.le_refl _)
          have h2 : us.length * (2 * vs.length) ≤ 12 * 24 := Nat.mul_le_mul lu (by omega)
          have h3 : (hY C us vs).length = us.length + vs.length := by simp [hY]
          unfold hL
          rw [List.length_append]
          omega
        generalize hL C us vs = L at *
        obtain ⟨hl9, hp9⟩ := hll
        have b1 := mxP_bd HBd.out hp9 L.length (Nat.le_refl _)
        have b2 := mnP_bd HBd.out hp9 L.length (Nat.le_refl _)
        obtain ⟨b, o, e, hb, z0⟩ := hI9.at_ 0 hp9
        rw [Nat.add_zero] at z0
        have HI9 := Lib.hid hI9
        have HZ := Lib.hid (show mxP L 0 = L[0] ∧ mnP L 0 = L[0] by constructor <;> (show L.getD 0 0 = _; rw [List.getD_eq_getElem?_getD, List.getElem?_eq_getElem hp9]; rfl))
        subst e
        clear hI9
        generalize L[0] = x0 at *
        go_wp2
        go_region_held3 (fun w' => w'.cell? ⟨b, o, none⟩ = some (.int .i64 x0)) (simp [go_sem, *]) (fail)
        go_wp2
        go_loopw [18, 19, 20] (fun lo hi i wr => ∃ k : Nat, k ≤ L.length ∧ i = .int .i64 k ∧ lo = .int .i64 (mnP L k) ∧ hi = .int .i64 (mxP L k) ∧ Hid (Ints wr (some ⟨b, o, none⟩) L) ∧ Below w.heap.size w wr) (fun _ _ i _ => L.length - (intOf i).toNat)
        case atStart => exact ⟨0, Nat.zero_le _, rfl, by rw [HZ.out.2], by rw [HZ.out.1], Lib.hid (show Ints _ _ L from HI9.out), by repeat (with_reducible first | exact Below.refl _ _ | assumption | refine Bel.alloc ?_ _ | refine Bel.step (by assumption) ?_ | refine Below.drew ?_ | refine Bel.drewN ?_ _ | refine Below.setCell ?_ (by first | exact Nat.le_refl _ | omega | (simp; done) | (simp; omega)) _)⟩
        case round =>
          clear HI9 hbel z0
          obtain ⟨k, hk, rfl, rfl, rfl, HI9, hbel⟩ := hrel
          by_cases hlt : k < L.length
          · obtain ⟨b', o', e, hbb', hck⟩ := HI9.out.at_ k hlt
            cases e
            have HS := Lib.hid (show mxP L (k + 1) = mx (mxP L k) L[k] ∧ mnP L (k + 1) = mn (mnP L k) L[k] by rw [show L[k] = L.getD k 0 by rw [List.getD_eq_getElem?_getD, List.getElem?_eq_getElem hlt]; rfl]; exact ⟨rfl, rfl⟩)
            generalize L[k] = z at HS hck
            generalize mxP L k = m at HS ⊢
            generalize mnP L k = n at HS ⊢
            go_wp2
            go_roundw
            case rel => exact ⟨k + 1, by omega, by go_num, by rw [HS.out.2]; congr 1; unfold mn; repeat' split; all_goals omega, by rw [HS.out.1]; congr 1; unfold mx; repeat' split; all_goals omega, HI9, by repeat (with_reducible first | exact Below.refl _ _ | assumption | refine Bel.alloc ?_ _ | refine Bel.step (by assumption) ?_ | refine Below.drew ?_ | refine Bel.drewN ?_ _ | refine Below.setCell ?_ (by first | exact Nat.le_refl _ | omega | (simp; done) | (simp; omega)) _)⟩
            case measure => simp [intOf]; omega
          · obtain rfl : k = L.length := by omega
            go_wp2
            go_ret2
            exact ⟨by rw [HT.out.1, HT.out.2]; rfl, by repeat (with_reducible first | exact Below.refl _ _ | assumption | refine Bel.alloc ?_ _ | refine Bel.step (by assumption) ?_ | refine Below.drew ?_ | refine Bel.drewN ?_ _ | refine Below.setCell ?_ (by first | exact Nat.le_refl _ | omega | (simp; done) | (simp; omega)) _)⟩
      obtain ⟨bu, ou, rfl, hbu, u0, u1⟩ := (Prs.step hbel HD.out).at_ k hlt
      have HFu := Lib.hid (okFs_ix HU.out hlt)
      have HWr := Lib.hid (fun hx : (vs.all fun v => decide (lhC C us[k].1 us[k].2 v.1 v.2 = 0)) = true => wOk_row hlt HW.out hx)
      have HNs := Lib.hid (fun (l : Nat) (hl : l < vs.length) hx => wOk_no (C := C) hlt hl hx)
      have HOs := Lib.hid (fun (l : Nat) (hl : l < vs.length) h1 h2 => wOk_take (C := C) hlt hl h1 h2)
      have HAs := Lib.hid (hAl_step (C := C) (vs := vs) hlt)
      have HAn := Lib.hid (hAl_len C us vs k (by omega))
      have HRs := Lib.hid (fun (l : Nat) (hl : l < vs.length) => hR_step (C := C) (u := us[k]) hl)
      have HRn := Lib.hid (fun l => hR_len C us[k] vs l)
      have HR0 := Lib.hid (show hR C us[k] vs 0 = [] from rfl)
      have HU0 := Lib.hid (fun (W : World) (hW : Below w.heap.size w W) => (Prs.step hW HD.out).at_ k hlt)
      generalize hR C us[k] vs = RR at *
      generalize us[k].1 = ud at *
      generalize us[k].2 = ut at *
      have hyk : (hY C us vs ++ hAl C us vs k).length ≤ 1000 := by
        have h1 := HAn.out
        have h2 : k * (2 * vs.length) ≤ 12 * 24 := Nat.mul_le_mul (by omega) (by omega)
        have h3 := HYL.out
        rw [List.length_append]
        omega
      have HYK := Lib.hid hyk
      have HO0 := Lib.hid hO
      clear hyk hO HAn
      go_wp2
      go_loopw [8, 15, 16, 17] (fun v j _ _ wr => ∃ l : Nat, l ≤ vs.length ∧ j = .int .i64 l ∧ Own wr (w.heap.size + 1) 2 v (hY C us vs ++ hAl C us vs k ++ RR l) ∧ Hid (((vs.take l).all fun v => decide (lhC C ud ut v.1 v.2 = 0)) = true) ∧ Hid (Blk wr w.heap.size 30 #[.int .i64 C.dg, .int .i64 C.tn, .string C.nm, .slice A C.zs.length c, .int .i64 C.wd, .int .i64 C.lf, .int .i64 C.rt]) ∧ Below w.heap.size w wr) (fun _ j _ _ _ => vs.length - (intOf j).toNat)
      case atStart => exact ⟨0, Nat.zero_le _, rfl, by rw [HR0.out, List.append_nil]; exact HO0.out, Lib.hid rfl, HC, hbel⟩
      case round =>
        clear hbel u0 u1 HO0 HR0 HC
        obtain ⟨l, hl, rfl, hO, HL, HC, hbel⟩ := hrel
        by_cases hlt2 : l < vs.length
        rotate_left
        · obtain rfl : l = vs.length := by omega
          have HO2 := Lib.hid (HWr.out (by have := HL.out; rw [List.take_length] at this; exact this))
          have H2 := Lib.hid hO
          clear hO
          go_wp2
          go_roundw
          case rel => exact ⟨k + 1, by omega, by go_num, by rw [HAs.out, ← List.append_assoc]; exact H2.out, HO2, HC, hbel⟩
          case measure => simp [intOf]; omega
        obtain ⟨b', o', e', hbu', u0, u1⟩ := HU0.out _ hbel
        cases e'
        obtain ⟨bv, ov, rfl, hbv, y0, y1⟩ := (Prs.step hbel HE.out).at_ l hlt2
        have HFv := Lib.hid (okFs_ix HV.out hlt2)
        have HOl := Lib.hid (HOs.out l hlt2 HL.out)
        have HNo := Lib.hid (HNs.out l hlt2)
        have HRl := Lib.hid (HRs.out l hlt2)
        have HRm := Lib.hid (HRn.out l)
        generalize vs[l].1 = vd at *
        generalize vs[l].2 = vt at *
        have HQ := Lib.hid (lq_0 (show clC C 0 (okF ud ut && okF vd vt) = 0 by have a := HFu.out; have b := HFv.out; have c := H.out; simp [clC, a, b, c, show inB 0 0 200 = true from rfl]))
        have p0 : wr.cell? ⟨w.heap.size, 0, none⟩ = some (.int .i64 C.dg) := by rw [HC.out.cell]; rfl
        have p1 : wr.cell? ⟨w.heap.size, 1, none⟩ = some (.int .i64 C.tn) := by rw [HC.out.cell]; rfl
        have p2 : wr.cell? ⟨w.heap.size, 2, none⟩ = some (.string C.nm) := by rw [HC.out.cell]; rfl
        have p3 : wr.cell? ⟨w.heap.size, 3, none⟩ = some (.slice A C.zs.length c) := by rw [HC.out.cell]; rfl
        have p4 : wr.cell? ⟨w.heap.size, 4, none⟩ = some (.int .i64 C.wd) := by rw [HC.out.cell]; rfl
        have p5 : wr.cell? ⟨w.heap.size, 5, none⟩ = some (.int .i64 C.lf) := by rw [HC.out.cell]; rfl
        have p6 : wr.cell? ⟨w.heap.size, 6, none⟩ = some (.int .i64 C.rt) := by rw [HC.out.cell]; rfl
        have clt := HC.out.lt
        have HIr := Lib.hid (Ints.step hbel HI.out)
        have HO := Lib.hid hO
        have HC0 := Lib.hid HC.out
        clear hO HC
        go_wp2
        go_region_held3 (fun w' => (w'.cell? ⟨w.heap.size, 0, none⟩ = some (.int .i64 C.dg) ∧ w'.cell? ⟨w.heap.size, 1, none⟩ = some (.int .i64 C.tn) ∧ w'.cell? ⟨w.heap.size, 2, none⟩ = some (.string C.nm) ∧ w'.cell? ⟨w.heap.size, 3, none⟩ = some (.slice A C.zs.length c) ∧ w'.cell? ⟨w.heap.size, 4, none⟩ = some (.int .i64 C.wd) ∧ w'.cell? ⟨w.heap.size, 5, none⟩ = some (.int .i64 C.lf) ∧ w'.cell? ⟨w.heap.size, 6, none⟩ = some (.int .i64 C.rt)) ∧ w'.cell? ⟨bu, ou + k * 2, none⟩ = some (.int .i64 ud) ∧ w'.cell? ⟨bu, ou + k * 2 + 1, none⟩ = some (.int .i64 ut) ∧ w'.cell? ⟨bv, ov + l * 2, none⟩ = some (.int .i64 vd) ∧ w'.cell? ⟨bv, ov + l * 2 + 1, none⟩ = some (.int .i64 vt)) (simp [go_sem, *])
            (first | (go_at_call 129; refine (LineHeights_S _ _ _ _ _ _ _ hn hm _ (by repeat (with_reducible first | exact HIr.out | assumption | refine Ints.drew ?_ | refine Ints.drewN _ ?_ | refine Ints.alloc _ ?_ | refine Ints.step (by assumption) ?_))).mono ?_; rintro e w1 ⟨rfl, hb1⟩; obtain ⟨hc1, hf1, hz1⟩ := bel hb1; (try simp only [World.size_drew, World.cell?_drew, World.frozen?_drew, World.heap_drewN, World.cell?_drewN, World.frozen?_drewN] at hc1 hf1 hz1); (try have hl1 : w.heap.size < w1.heap.size := zl hb1); (try have hm1 : w.heap.size + 1 < w1.heap.size := zl hb1); (try have hn1 : w.heap.size + 1 + 1 < w1.heap.size := zl hb1); (try have hp1 : b < w1.heap.size := zl hb1); (try have ho1 : b' < w1.heap.size := by (have hq := hb1.size; (try simp at hq); omega))))
        · skip
          rw [HQ.out.1, HQ.out.2.1, HQ.out.2.2]
          have HCV := Blk.alloc (.cells #[.int .i64 (lhL C ud ut vd vt), .int .i64 (lhH C ud ut vd vt)] 92) (Blk.step hb1 (Blk.drew HC0.out))
          have HOV := Own.alloc (.cells #[.int .i64 (lhL C ud ut vd vt), .int .i64 (lhH C ud ut vd vt)] 92) (Own.step hb1 (Own.drew HO.out))
          have HXV := Blk.new w1 92 #[.int .i64 (lhL C ud ut vd vt), .int .i64 (lhH C ud ut vd vt)]
          have hbV : Below w.heap.size w (w1.alloc (.cells #[.int .i64 (lhL C ud ut vd vt), .int .i64 (lhH C ud ut vd vt)] 92)) := by repeat (with_reducible first | exact Below.refl _ _ | assumption | refine Bel.alloc ?_ _ | refine Bel.step (by assumption) ?_ | refine Below.drew ?_ | refine Bel.drewN ?_ _ | refine Below.setCell ?_ (by first | exact Nat.le_refl _ | omega | (simp; done) | (simp; omega)) _)
          generalize w1.alloc (.cells #[.int .i64 (lhL C ud ut vd vt), .int .i64 (lhH C ud ut vd vt)] 92) = V at HCV HOV HXV hbV ⊢
          generalize w1.heap.size = q at HXV ⊢
          clear hb1 hc1 hf1 hz1 p0 p1 p2 p3 p4 p5 p6 u0 u1 y0 y1
          have VLT := Lib.hid HXV.lt
          have clt' := HCV.lt
          by_cases hc : lhC C ud ut vd vt = 0
          · have HO3 := Lib.hid (HOl.out hc)
            rw [hc]
            clear hc
            generalize lhL C ud ut vd vt = x at *
            generalize lhH C ud ut vd vt = y at *
            have x0 : V.cell? ⟨q, 0, none⟩ = some (.int .i64 x) := by rw [HXV.cell]; rfl
            have x1 : V.cell? ⟨q, 1, none⟩ = some (.int .i64 y) := by rw [HXV.cell]; rfl
            have HBy := Lib.hid (Blk.new V 2 #[.int .i64 x, .int .i64 y])
            have HOW := Lib.hid HOV
            clear HXV HOV
            go_wp2_with (at_builtin; refine wpList_appNL rfl _ _ 26 rfl (w.heap.size + 1) 2 Tryz.underlying26 info64 _ _ rfl (Own.alloc _ HOW.out) V.heap.size 2 2 #[.int .i64 x, .int .i64 y] 2 HBy.out (by rfl) [x, y] rfl rfl (by omega) (by rw [List.length_append]; have := HYK.out; have := HRm.out; omega) (by simp; omega) ?_; intro v6 w6 hO6 hg6 hq6)
            have H6 := Lib.hid (show Own w6 (w.heap.size + 1) 2 v6 (hY C us vs ++ hAl C us vs k ++ RR (l + 1)) by rw [HRl.out, ← List.append_assoc]; exact hO6)
            have HC6 := Lib.hid (Blk.grown (Blk.alloc _ HCV) hg6 (fun e => by have := (HOW.out.lt _ e.symm).1; omega))
            have hbel6 := Bel.grown (Bel.alloc hbV _) hg6 (fun k hk => by have := (HOW.out.lt _ hk).1; omega)
            clear hO6 hg6 hq6 HCV HOW hbV HBy hbel x0 x1
            go_wp2
            go_roundw
            case rel => exact ⟨l + 1, by omega, by go_num, H6.out, HO3, HC6, hbel6⟩
            case measure => simp [intOf]; omega
          · have HT := Lib.hid (ht_w (HNo.out hc))
            have hq : lhC C ud ut vd vt = 3 := by unfold lhC at hc ⊢; split <;> simp_all
            rw [hq]
            go_wp2
            go_ret2
            exact ⟨by rw [HT.out.1, HT.out.2]; rfl, by repeat (with_reducible first | exact Below.refl _ _ | assumption | refine Bel.alloc ?_ _ | refine Bel.step (by assumption) ?_ | refine Below.drew ?_ | refine Bel.drewN ?_ _ | refine Below.setCell ?_ (by first | exact Nat.le_refl _ | omega | (simp; done) | (simp; omega)) _)⟩
        · skip
          rw [HQ.out.1, HQ.out.2.1, HQ.out.2.2]
          have hne : w.heap.size ≠ wr.heap.size := by omega
          have HCV := Blk.far (p := ⟨wr.heap.size, 1, none⟩) (.int .i64 (lhH C ud ut vd vt)) (by simpa using hne) (Blk.far (p := ⟨wr.heap.size, 0, none⟩) (.int .i64 (lhL C ud ut vd vt)) (by simpa using hne) (Blk.step hb1 (Blk.drew (Blk.alloc (.cells #[.int .i64 0, .int .i64 0] 92) HC0.out))))
          have HO1 := Own.step hb1 (Own.drew (Own.alloc (.cells #[.int .i64 0, .int .i64 0] 92) HO.out))
          have hone := own_btw'' HO.out
          have HOV := Own.kept (Own.kept HO1 (grown_set (World.grownBy.refl w1 (some wr.heap.size)) (o := 0) (.int .i64 (lhL C ud ut vd vt))) (.inr hone)) (grown_set (World.grownBy.refl _ (some wr.heap.size)) (o := 1) (.int .i64 (lhH C ud ut vd vt))) (.inr hone)
          have HX1 := Blk.step hb1 (Blk.drew (Blk.new wr 92 #[.int .i64 0, .int .i64 0]))
          have HXV : Blk ((w1.setCell ⟨wr.heap.size, 0, none⟩ (.int .i64 (lhL C ud ut vd vt))).setCell ⟨wr.heap.size, 1, none⟩ (.int .i64 (lhH C ud ut vd vt))) wr.heap.size 92 #[.int .i64 (lhL C ud ut vd vt), .int .i64 (lhH C ud ut vd vt)] := by simpa using (HX1.set_ 0 (.int .i64 (lhL C ud ut vd vt))).set_ 1 (.int .i64 (lhH C ud ut vd vt))
          have hbV : Below w.heap.size w ((w1.setCell ⟨wr.heap.size, 0, none⟩ (.int .i64 (lhL C ud ut vd vt))).setCell ⟨wr.heap.size, 1, none⟩ (.int .i64 (lhH C ud ut vd vt))) := by repeat (with_reducible first | exact Below.refl _ _ | assumption | refine Bel.alloc ?_ _ | refine Bel.step (by assumption) ?_ | refine Below.drew ?_ | refine Bel.drewN ?_ _ | refine Below.setCell ?_ (by first | exact Nat.le_refl _ | omega | (simp; done) | (simp; omega)) _)
          generalize (w1.setCell ⟨wr.heap.size, 0, none⟩ (.int .i64 (lhL C ud ut vd vt))).setCell ⟨wr.heap.size, 1, none⟩ (.int .i64 (lhH C ud ut vd vt)) = V at HCV HOV HXV hbV ⊢
          clear hone HO1 HX1 hne
          clear hb1 hc1 hf1 hz1 p0 p1 p2 p3 p4 p5 p6 u0 u1 y0 y1
          obtain ⟨q, hq0⟩ : ∃ q, q = wr.heap.size := ⟨_, rfl⟩
          rw [← hq0] at HXV ⊢
          clear hq0
          have VLT := Lib.hid HXV.lt
          have clt' := HCV.lt
          by_cases hc : lhC C ud ut vd vt = 0
          · have HO3 := Lib.hid (HOl.out hc)
            rw [hc]
            clear hc
            generalize lhL C ud ut vd vt = x at *
            generalize lhH C ud ut vd vt = y at *
            have x0 : V.cell? ⟨q, 0, none⟩ = some (.int .i64 x) := by rw [HXV.cell]; rfl
            have x1 : V.cell? ⟨q, 1, none⟩ = some (.int .i64 y) := by rw [HXV.cell]; rfl
            have HBy := Lib.hid (Blk.new V 2 #[.int .i64 x, .int .i64 y])
            have HOW := Lib.hid HOV
            clear HXV HOV
            go_wp2_with (at_builtin; refine wpList_appNL rfl _ _ 26 rfl (w.heap.size + 1) 2 Tryz.underlying26 info64 _ _ rfl (Own.alloc _ HOW.out) V.heap.size 2 2 #[.int .i64 x, .int .i64 y] 2 HBy.out (by rfl) [x, y] rfl rfl (by omega) (by rw [List.length_append]; have := HYK.out; have := HRm.out; omega) (by simp; omega) ?_; intro v6 w6 hO6 hg6 hq6)
            have H6 := Lib.hid (show Own w6 (w.heap.size + 1) 2 v6 (hY C us vs ++ hAl C us vs k ++ RR (l + 1)) by rw [HRl.out, ← List.append_assoc]; exact hO6)
            have HC6 := Lib.hid (Blk.grown (Blk.alloc _ HCV) hg6 (fun e => by have := (HOW.out.lt _ e.symm).1; omega))
            have hbel6 := Bel.grown (Bel.alloc hbV _) hg6 (fun k hk => by have := (HOW.out.lt _ hk).1; omega)
            clear hO6 hg6 hq6 HCV HOW hbV HBy hbel x0 x1
            go_wp2
            go_roundw
            case rel => exact ⟨l + 1, by omega, by go_num, H6.out, HO3, HC6, hbel6⟩
            case measure => simp [intOf]; omega
          · have HT := Lib.hid (ht_w (HNo.out hc))
            have hq : lhC C ud ut vd vt = 3 := by unfold lhC at hc ⊢; split <;> simp_all
            rw [hq]
            go_wp2
            go_ret2
            exact ⟨by rw [HT.out.1, HT.out.2]; rfl, by repeat (with_reducible first | exact Below.refl _ _ | assumption | refine Bel.alloc ?_ _ | refine Bel.step (by assumption) ?_ | refine Below.drew ?_ | refine Bel.drewN ?_ _ | refine Below.setCell ?_ (by first | exact Nat.le_refl _ | omega | (simp; done) | (simp; omega)) _)⟩
end Go.Proofs.YtpmcgicopogbhaaGreat
