/- The statement on worn figures, walked. No conditions. -/
import Derived.Test.YtlphcpmneioogaaProg
import Derived.Test.YtlphcpmneioogaaBase
import Derived.Test.YtlphcpmneioogaaRw
import Derived.Test.YtlphcpmneioogaaL01
import Derived.Test.YtlphcpmneioogaaCp
import Derived.Test.YtlphcpmneioogaaL18
import Derived.Test.YtlphcpmneioogaaL23
import Derived.Test.YtlphcpmneioogaaL28
import Derived.Test.YtlphcpmneioogaaL03
import Derived.Test.YtlphcpmneioogaaL04
import Derived.Test.YtlphcpmneioogaaL05
import Derived.Test.YtlphcpmneioogaaL05b
import Derived.Test.YtlphcpmneioogaaL06
import Derived.Test.YtlphcpmneioogaaL28w
import Derived.WalkKit
import Derived.WalkSpells
import Derived.WalkLawsBesides
import Derived.Lib.Hide
import Derived.Deep.QuietTactic
import Derived.BigQuiet
import Derived.Deep.Draws
import Derived.Deep.RegionHeld3
import Derived.Deep.Cut
namespace Go.Proofs.Ytlphcpmneioogaa
open Go.RowKit
set_option linter.unusedVariables false
set_option linter.unusedSimpArgs false
structure BoxW (P : Prop) : Prop where
  out : P
theorem cut_W {G : Prop} (P : Prop) (k : BoxW P → G) (h : P) : G := k ⟨h⟩
set_option maxRecDepth 20000 in
set_option maxHeartbeats 8000000 in
theorem FnExactWornFigure_w (w : World) (s z : Int) (g0 : (Lit.int .i64 s).wf = true) (g1 : (Lit.int .i64 z).wf = true) (sc : Int) (g2 : (Lit.int .i64 sc).wf = true) (n : Int) (g3 : (Lit.int .i64 n).wf = true) (d t : Int) (g4 : (Lit.int .i64 d).wf = true) (g5 : (Lit.int .i64 t).wf = true) :
    Calls Try.prog 3 #[.agg #[.int .i64 s, .int .i64 z], .int .i64 sc, .int .i64 n, .agg #[.int .i64 d, .int .i64 t]] w fun e w' => e = .returned (.bool true) ∧ Below w.heap.size w w' := by
  obtain ⟨a0, ha0⟩ : ∃ k, k = wfD s z sc n d t := ⟨_, rfl⟩
  obtain ⟨a1, ha1⟩ : ∃ k, k = wfT s z sc n d t := ⟨_, rfl⟩
  obtain ⟨a2, ha2⟩ : ∃ k, k = wfC s z sc n d t := ⟨_, rfl⟩
  have HV := Lib.hid (And.intro ha0 (And.intro ha1 ha2))
  clear ha0 ha1 ha2 g0 g1 g2 g3 g4 g5
  go_enter Try.func3, Try.ntmps3
  go_upto_region 1 with (fail)
  have HM : Blk ((w.alloc (.cells #[.int .i64 s, .int .i64 z] 23)).alloc (.cells #[.int .i64 d, .int .i64 t] 25)) w.heap.size 23 #[.int .i64 s, .int .i64 z] := Blk.alloc _ (Blk.new _ _ _)
  have HF : Blk ((w.alloc (.cells #[.int .i64 s, .int .i64 z] 23)).alloc (.cells #[.int .i64 d, .int .i64 t] 25)) (w.heap.size + 1) 25 #[.int .i64 d, .int .i64 t] := by have h := Blk.new (w.alloc (.cells #[.int .i64 s, .int .i64 z] 23)) 25 #[.int .i64 d, .int .i64 t]; simp only [World.size_alloc] at h; exact h
  have hbel : Below w.heap.size w ((w.alloc (.cells #[.int .i64 s, .int .i64 z] 23)).alloc (.cells #[.int .i64 d, .int .i64 t] 25)) := by repeat (with_reducible first | exact Below.refl _ _ | assumption | refine Bel.alloc ?_ _ | refine Bel.step (by assumption) ?_ | refine Below.drew ?_ | refine Bel.drewN ?_ _ | refine Below.setCell ?_ (by first | exact Nat.le_refl _ | omega | (simp; done) | (simp; omega)) _)
  generalize ((w.alloc (.cells #[.int .i64 s, .int .i64 z] 23)).alloc (.cells #[.int .i64 d, .int .i64 t] 25)) = V0 at HM HF hbel ⊢
  refine wp_region_held_drew (S := fun W => Blk W w.heap.size 23 #[.int .i64 s, .int .i64 z] ∧ Blk W (w.heap.size + 1) 25 #[.int .i64 d, .int .i64 t]) (by kernel_rfl) (⟨HM.drew, HF.drew⟩) (fun hHeld => ?_)
  replace HM := HM.drew
  replace HF := HF.drew
  replace hbel := Below.drew hbel
  generalize V0.drew = v1 at HM HF hbel hHeld ⊢
  refine wpAnyH_take (i := 0) (v := .agg #[.int .i64 s, .int .i64 z]) rfl (by kernel_rfl) (by kernel_rfl) (by kernel_rfl) (fun _ _ _ h => h) (yieldsIf_load_blk 23 _ (w.heap.size) (fun _ h => h.1) Try.underlying23 (by kernel_rfl) (by rfl) rfl rfl) hHeld ?_
  try simp only [Act.put, List.setIfInBounds_toArray, List.set_cons_zero, List.set_cons_succ]
  refine wpAnyH_take (i := 2) (v := (.int .i64 sc)) rfl (by kernel_rfl) (by kernel_rfl) (by kernel_rfl) (fun _ _ _ h => h) (Or.inl ⟨by rfl, fun w _ => by simp [go_sem, execOp]⟩) hHeld ?_
  try simp only [Act.put, List.setIfInBounds_toArray, List.set_cons_zero, List.set_cons_succ]
  refine wpAnyH_take (i := 3) (v := (.int .i64 n)) rfl (by kernel_rfl) (by kernel_rfl) (by kernel_rfl) (fun _ _ _ h => h) (Or.inl ⟨by rfl, fun w _ => by simp [go_sem, execOp]⟩) hHeld ?_
  try simp only [Act.put, List.setIfInBounds_toArray, List.set_cons_zero, List.set_cons_succ]
  refine wpAnyH_take (i := 4) (v := .agg #[.int .i64 d, .int .i64 t]) rfl (by kernel_rfl) (by kernel_rfl) (by kernel_rfl) (fun _ _ _ h => h) (yieldsIf_load_blk 25 _ (w.heap.size + 1) (fun _ h => h.2) Try.underlying25 (by kernel_rfl) (by rfl) rfl rfl) hHeld ?_
  try simp only [Act.put, List.setIfInBounds_toArray, List.set_cons_zero, List.set_cons_succ]
  apply cut_W
  · intro key
    refine wpAnyH_ready (rs := [1, 10]) (by kernel_rfl) (by simp) ?_
    refine AllReadyH.cons rfl (fun K hK => ?_) (AllReadyH.cons rfl (fun K hK => ?_) (AllReadyH.nil))
    · skip
      go_simp
      go_at_call 5; refine (toModel_c s z _).mono ?_; rintro e w11 ⟨rfl, hb⟩
      replace HM := Blk.step hb HM
      replace HF := Blk.step hb HF
      replace hbel := Bel.step hb hbel
      clear hb
      refine hK.out _ _ (⟨HM, HF⟩) (fun hHeld => ?_)
      clear hK K
      try simp only [Act.put, List.setIfInBounds_toArray, List.set_cons_zero, List.set_cons_succ]
      refine wpAnyH_ready (rs := [5, 10]) (by kernel_rfl) (by simp) ?_
      refine AllReadyH.cons rfl (fun K hK => ?_) (AllReadyH.cons rfl (fun K hK => ?_) (AllReadyH.nil))
      · skip
        go_simp
        go_at_call 6; refine (toFigure_c d t _).mono ?_; rintro e w15 ⟨rfl, hb⟩
        replace HM := Blk.step hb HM
        replace HF := Blk.step hb HF
        replace hbel := Bel.step hb hbel
        clear hb
        refine hK.out _ _ (⟨HM, HF⟩) (fun hHeld => ?_)
        clear hK K
        try simp only [Act.put, List.setIfInBounds_toArray, List.set_cons_zero, List.set_cons_succ]
        refine wpAnyH_ready (rs := [6, 10]) (by kernel_rfl) (by simp) ?_
        refine AllReadyH.cons rfl (fun K hK => ?_) (AllReadyH.cons rfl (fun K hK => ?_) (AllReadyH.nil))
        · skip
          go_simp
          go_at_call 4; refine (WornFigure_S s z sc n d t _).mono ?_; rintro e w16 ⟨rfl, hb⟩
          rw [← HV.out.1, ← HV.out.2.1, ← HV.out.2.2]
          replace HM := Blk.step hb HM
          replace HF := Blk.step hb HF
          replace hbel := Bel.step hb hbel
          clear hb
          refine hK.out _ _ (⟨HM, HF⟩) (fun hHeld => ?_)
          clear hK K
          try simp only [Act.put, List.setIfInBounds_toArray, List.set_cons_zero, List.set_cons_succ]
          refine wpAnyH_take (i := 7) (v := (.tuple #[.agg #[.int .i64 a0, .int .i64 a1], .int .i64 a2])) rfl (by kernel_rfl) (by kernel_rfl) (by kernel_rfl) (fun _ _ _ h => h) (Or.inl ⟨by rfl, fun w _ => by simp [go_sem, execOp]⟩) hHeld ?_
          try simp only [Act.put, List.setIfInBounds_toArray, List.set_cons_zero, List.set_cons_succ]
          refine wpAnyH_take (i := 8) (v := (.agg #[.int .i64 a0, .int .i64 a1])) rfl (by kernel_rfl) (by kernel_rfl) (by kernel_rfl) (fun _ _ _ h => h) (Or.inl ⟨by rfl, fun w _ => by simp [go_sem, execOp]⟩) hHeld ?_
          try simp only [Act.put, List.setIfInBounds_toArray, List.set_cons_zero, List.set_cons_succ]
          refine wpAnyH_take (i := 9) (v := (.int .i64 a2)) rfl (by kernel_rfl) (by kernel_rfl) (by kernel_rfl) (fun _ _ _ h => h) (Or.inl ⟨by rfl, fun w _ => by simp [go_sem, execOp]⟩) hHeld ?_
          try simp only [Act.put, List.setIfInBounds_toArray, List.set_cons_zero, List.set_cons_succ]
          refine wpAnyH_ready (rs := [10]) (by kernel_rfl) (by simp) ?_
          refine AllReadyH.cons rfl (fun K hK => ?_) (AllReadyH.nil)
          go_simp
          refine hK.out _ _ (⟨Blk.alloc _ HM, Blk.alloc _ HF⟩) (fun hHeld => ?_)
          clear hK K
          try simp only [Act.put, List.setIfInBounds_toArray, List.set_cons_zero, List.set_cons_succ]
          refine wpAnyH_ready (rs := [11]) (by kernel_rfl) (by simp) ?_
          refine AllReadyH.cons rfl (fun K hK => ?_) AllReadyH.nil
          go_simp
          refine hK.out _ _ (⟨Blk.alloc _ HM, Blk.alloc _ HF⟩) (fun hHeld => ?_)
          clear hK K
          try simp only [Act.put, List.setIfInBounds_toArray, List.set_cons_zero, List.set_cons_succ]
          refine wpAnyH_take (i := 12) (v := (.int .i64 a2)) rfl (by kernel_rfl) (by kernel_rfl) (by kernel_rfl) (fun _ _ _ h => h) (Or.inl ⟨by rfl, fun w _ => by simp [go_sem, execOp]⟩) hHeld ?_
          try simp only [Act.put, List.setIfInBounds_toArray, List.set_cons_zero, List.set_cons_succ]
          refine wpAnyH_done (by kernel_rfl) ?_ _
          have H1 := Blk.new w16 26 #[.int .i64 a0, .int .i64 a1]
          replace HM := Blk.alloc (.cells #[.int .i64 a0, .int .i64 a1] 26) HM
          replace HF := Blk.alloc (.cells #[.int .i64 a0, .int .i64 a1] 26) HF
          replace hbel := Bel.alloc hbel (.cells #[.int .i64 a0, .int .i64 a1] 26)
          generalize w16.alloc (.cells #[.int .i64 a0, .int .i64 a1] 26) = U at H1 HM HF hbel ⊢
          generalize w16.heap.size = G at H1 ⊢
          revert hbel; revert HF; revert HM; revert H1
          revert U; revert G
          exact key.out
        · skip
          go_simp
          have H1 := Blk.new w15 26 #[.int .i64 0, .int .i64 0]
          have hq0 : _ < w15.heap.size := HM.lt
          have hq1 : _ < w15.heap.size := HF.lt
          have hqb := hbel.size
          replace HM := Blk.alloc (.cells #[.int .i64 0, .int .i64 0] 26) HM
          replace HF := Blk.alloc (.cells #[.int .i64 0, .int .i64 0] 26) HF
          replace hbel := Bel.alloc hbel (.cells #[.int .i64 0, .int .i64 0] 26)
          refine hK.out _ _ (⟨HM, HF⟩) (fun hHeld => ?_)
          clear hK K
          try simp only [Act.put, List.setIfInBounds_toArray, List.set_cons_zero, List.set_cons_succ]
          refine wpAnyH_ready (rs := [6]) (by kernel_rfl) (by simp) ?_
          refine AllReadyH.cons rfl (fun K hK => ?_) (AllReadyH.nil)
          go_simp
          go_at_call 4; refine (WornFigure_S s z sc n d t _).mono ?_; rintro e w16 ⟨rfl, hb⟩
          rw [← HV.out.1, ← HV.out.2.1, ← HV.out.2.2]
          replace HM := Blk.step hb HM
          replace HF := Blk.step hb HF
          replace H1 := Blk.step hb H1
          replace hbel := Bel.step hb hbel
          clear hb
          refine hK.out _ _ (⟨HM, HF⟩) (fun hHeld => ?_)
          clear hK K
          try simp only [Act.put, List.setIfInBounds_toArray, List.set_cons_zero, List.set_cons_succ]
          refine wpAnyH_take (i := 7) (v := (.tuple #[.agg #[.int .i64 a0, .int .i64 a1], .int .i64 a2])) rfl (by kernel_rfl) (by kernel_rfl) (by kernel_rfl) (fun _ _ _ h => h) (Or.inl ⟨by rfl, fun w _ => by simp [go_sem, execOp]⟩) hHeld ?_
          try simp only [Act.put, List.setIfInBounds_toArray, List.set_cons_zero, List.set_cons_succ]
          refine wpAnyH_take (i := 8) (v := (.agg #[.int .i64 a0, .int .i64 a1])) rfl (by kernel_rfl) (by kernel_rfl) (by kernel_rfl) (fun _ _ _ h => h) (Or.inl ⟨by rfl, fun w _ => by simp [go_sem, execOp]⟩) hHeld ?_
          try simp only [Act.put, List.setIfInBounds_toArray, List.set_cons_zero, List.set_cons_succ]
          refine wpAnyH_take (i := 9) (v := (.int .i64 a2)) rfl (by kernel_rfl) (by kernel_rfl) (by kernel_rfl) (fun _ _ _ h => h) (Or.inl ⟨by rfl, fun w _ => by simp [go_sem, execOp]⟩) hHeld ?_
          try simp only [Act.put, List.setIfInBounds_toArray, List.set_cons_zero, List.set_cons_succ]
          have l0 := H1.cell 0
          have l1 := H1.cell 1
          have lf0 := H1.frozen 0
          have lf1 := H1.frozen 1
          simp only [List.getElem?_toArray, List.getElem?_cons_zero, List.getElem?_cons_succ] at l0 l1
          refine wpAnyH_ready (rs := [11]) (by kernel_rfl) (by simp) ?_
          refine AllReadyH.cons rfl (fun K hK => ?_) AllReadyH.nil
          go_simp
          refine hK.out _ _ (⟨Blk.far (p := ⟨w15.heap.size, 1, none⟩) (.int .i64 a1) (by first | omega | (simp; omega)) (Blk.far (p := ⟨w15.heap.size, 0, none⟩) (.int .i64 a0) (by first | omega | (simp; omega)) HM), Blk.far (p := ⟨w15.heap.size, 1, none⟩) (.int .i64 a1) (by first | omega | (simp; omega)) (Blk.far (p := ⟨w15.heap.size, 0, none⟩) (.int .i64 a0) (by first | omega | (simp; omega)) HF)⟩) (fun hHeld => ?_)
          clear hK K
          try simp only [Act.put, List.setIfInBounds_toArray, List.set_cons_zero, List.set_cons_succ]
          refine wpAnyH_take (i := 12) (v := (.int .i64 a2)) rfl (by kernel_rfl) (by kernel_rfl) (by kernel_rfl) (fun _ _ _ h => h) (Or.inl ⟨by rfl, fun w _ => by simp [go_sem, execOp]⟩) hHeld ?_
          try simp only [Act.put, List.setIfInBounds_toArray, List.set_cons_zero, List.set_cons_succ]
          refine wpAnyH_done (by kernel_rfl) ?_ _
          replace H1 : Blk ((w16.setCell ⟨w15.heap.size, 0, none⟩ (.int .i64 a0)).setCell ⟨w15.heap.size, 1, none⟩ (.int .i64 a1)) (w15.heap.size) 26 #[.int .i64 a0, .int .i64 a1] := by have h := (H1.set_ 0 (.int .i64 a0)).set_ 1 (.int .i64 a1); simpa using h
          replace HM := Blk.far (p := ⟨w15.heap.size, 1, none⟩) (.int .i64 a1) (by first | omega | (simp; omega)) (Blk.far (p := ⟨w15.heap.size, 0, none⟩) (.int .i64 a0) (by first | omega | (simp; omega)) HM)
          replace HF := Blk.far (p := ⟨w15.heap.size, 1, none⟩) (.int .i64 a1) (by first | omega | (simp; omega)) (Blk.far (p := ⟨w15.heap.size, 0, none⟩) (.int .i64 a0) (by first | omega | (simp; omega)) HF)
          replace hbel := Below.setCell (p := ⟨w15.heap.size, 1, none⟩) (Below.setCell (p := ⟨w15.heap.size, 0, none⟩) hbel (by first | omega | (simp; omega)) (.int .i64 a0)) (by first | omega | (simp; omega)) (.int .i64 a1)
          clear l0 l1 lf0 lf1
          generalize ((w16.setCell ⟨w15.heap.size, 0, none⟩ (.int .i64 a0)).setCell ⟨w15.heap.size, 1, none⟩ (.int .i64 a1)) = U at H1 HM HF hbel ⊢
          exact key.out _ _ H1 HM HF hbel
      · skip
        go_simp
        have H1 := Blk.new w11 26 #[.int .i64 0, .int .i64 0]
        have hq0 : _ < w11.heap.size := HM.lt
        have hq1 : _ < w11.heap.size := HF.lt
        have hqb := hbel.size
        replace HM := Blk.alloc (.cells #[.int .i64 0, .int .i64 0] 26) HM
        replace HF := Blk.alloc (.cells #[.int .i64 0, .int .i64 0] 26) HF
        replace hbel := Bel.alloc hbel (.cells #[.int .i64 0, .int .i64 0] 26)
        refine hK.out _ _ (⟨HM, HF⟩) (fun hHeld => ?_)
        clear hK K
        try simp only [Act.put, List.setIfInBounds_toArray, List.set_cons_zero, List.set_cons_succ]
        refine wpAnyH_ready (rs := [5]) (by kernel_rfl) (by simp) ?_
        refine AllReadyH.cons rfl (fun K hK => ?_) (AllReadyH.nil)
        go_simp
        go_at_call 6; refine (toFigure_c d t _).mono ?_; rintro e w15 ⟨rfl, hb⟩
        replace HM := Blk.step hb HM
        replace HF := Blk.step hb HF
        replace H1 := Blk.step hb H1
        replace hbel := Bel.step hb hbel
        clear hb
        refine hK.out _ _ (⟨HM, HF⟩) (fun hHeld => ?_)
        clear hK K
        try simp only [Act.put, List.setIfInBounds_toArray, List.set_cons_zero, List.set_cons_succ]
        refine wpAnyH_ready (rs := [6]) (by kernel_rfl) (by simp) ?_
        refine AllReadyH.cons rfl (fun K hK => ?_) (AllReadyH.nil)
        go_simp
        go_at_call 4; refine (WornFigure_S s z sc n d t _).mono ?_; rintro e w16 ⟨rfl, hb⟩
        rw [← HV.out.1, ← HV.out.2.1, ← HV.out.2.2]
        replace HM := Blk.step hb HM
        replace HF := Blk.step hb HF
        replace H1 := Blk.step hb H1
        replace hbel := Bel.step hb hbel
        clear hb
        refine hK.out _ _ (⟨HM, HF⟩) (fun hHeld => ?_)
        clear hK K
        try simp only [Act.put, List.setIfInBounds_toArray, List.set_cons_zero, List.set_cons_succ]
        refine wpAnyH_take (i := 7) (v := (.tuple #[.agg #[.int .i64 a0, .int .i64 a1], .int .i64 a2])) rfl (by kernel_rfl) (by kernel_rfl) (by kernel_rfl) (fun _ _ _ h => h) (Or.inl ⟨by rfl, fun w _ => by simp [go_sem, execOp]⟩) hHeld ?_
        try simp only [Act.put, List.setIfInBounds_toArray, List.set_cons_zero, List.set_cons_succ]
        refine wpAnyH_take (i := 8) (v := (.agg #[.int .i64 a0, .int .i64 a1])) rfl (by kernel_rfl) (by kernel_rfl) (by kernel_rfl) (fun _ _ _ h => h) (Or.inl ⟨by rfl, fun w _ => by simp [go_sem, execOp]⟩) hHeld ?_
        try simp only [Act.put, List.setIfInBounds_toArray, List.set_cons_zero, List.set_cons_succ]
        refine wpAnyH_take (i := 9) (v := (.int .i64 a2)) rfl (by kernel_rfl) (by kernel_rfl) (by kernel_rfl) (fun _ _ _ h => h) (Or.inl ⟨by rfl, fun w _ => by simp [go_sem, execOp]⟩) hHeld ?_
        try simp only [Act.put, List.setIfInBounds_toArray, List.set_cons_zero, List.set_cons_succ]
        have l0 := H1.cell 0
        have l1 := H1.cell 1
        have lf0 := H1.frozen 0
        have lf1 := H1.frozen 1
        simp only [List.getElem?_toArray, List.getElem?_cons_zero, List.getElem?_cons_succ] at l0 l1
        refine wpAnyH_ready (rs := [11]) (by kernel_rfl) (by simp) ?_
        refine AllReadyH.cons rfl (fun K hK => ?_) AllReadyH.nil
        go_simp
        refine hK.out _ _ (⟨Blk.far (p := ⟨w11.heap.size, 1, none⟩) (.int .i64 a1) (by first | omega | (simp; omega)) (Blk.far (p := ⟨w11.heap.size, 0, none⟩) (.int .i64 a0) (by first | omega | (simp; omega)) HM), Blk.far (p := ⟨w11.heap.size, 1, none⟩) (.int .i64 a1) (by first | omega | (simp; omega)) (Blk.far (p := ⟨w11.heap.size, 0, none⟩) (.int .i64 a0) (by first | omega | (simp; omega)) HF)⟩) (fun hHeld => ?_)
        clear hK K
        try simp only [Act.put, List.setIfInBounds_toArray, List.set_cons_zero, List.set_cons_succ]
        refine wpAnyH_take (i := 12) (v := (.int .i64 a2)) rfl (by kernel_rfl) (by kernel_rfl) (by kernel_rfl) (fun _ _ _ h => h) (Or.inl ⟨by rfl, fun w _ => by simp [go_sem, execOp]⟩) hHeld ?_
        try simp only [Act.put, List.setIfInBounds_toArray, List.set_cons_zero, List.set_cons_succ]
        refine wpAnyH_done (by kernel_rfl) ?_ _
        replace H1 : Blk ((w16.setCell ⟨w11.heap.size, 0, none⟩ (.int .i64 a0)).setCell ⟨w11.heap.size, 1, none⟩ (.int .i64 a1)) (w11.heap.size) 26 #[.int .i64 a0, .int .i64 a1] := by have h := (H1.set_ 0 (.int .i64 a0)).set_ 1 (.int .i64 a1); simpa using h
        replace HM := Blk.far (p := ⟨w11.heap.size, 1, none⟩) (.int .i64 a1) (by first | omega | (simp; omega)) (Blk.far (p := ⟨w11.heap.size, 0, none⟩) (.int .i64 a0) (by first | omega | (simp; omega)) HM)
        replace HF := Blk.far (p := ⟨w11.heap.size, 1, none⟩) (.int .i64 a1) (by first | omega | (simp; omega)) (Blk.far (p := ⟨w11.heap.size, 0, none⟩) (.int .i64 a0) (by first | omega | (simp; omega)) HF)
        replace hbel := Below.setCell (p := ⟨w11.heap.size, 1, none⟩) (Below.setCell (p := ⟨w11.heap.size, 0, none⟩) hbel (by first | omega | (simp; omega)) (.int .i64 a0)) (by first | omega | (simp; omega)) (.int .i64 a1)
        clear l0 l1 lf0 lf1
        generalize ((w16.setCell ⟨w11.heap.size, 0, none⟩ (.int .i64 a0)).setCell ⟨w11.heap.size, 1, none⟩ (.int .i64 a1)) = U at H1 HM HF hbel ⊢
        exact key.out _ _ H1 HM HF hbel
    · skip
      go_simp
      have H1 := Blk.new v1 26 #[.int .i64 0, .int .i64 0]
      have hq0 : _ < v1.heap.size := HM.lt
      have hq1 : _ < v1.heap.size := HF.lt
      have hqb := hbel.size
      replace HM := Blk.alloc (.cells #[.int .i64 0, .int .i64 0] 26) HM
      replace HF := Blk.alloc (.cells #[.int .i64 0, .int .i64 0] 26) HF
      replace hbel := Bel.alloc hbel (.cells #[.int .i64 0, .int .i64 0] 26)
      refine hK.out _ _ (⟨HM, HF⟩) (fun hHeld => ?_)
      clear hK K
      try simp only [Act.put, List.setIfInBounds_toArray, List.set_cons_zero, List.set_cons_succ]
      refine wpAnyH_ready (rs := [1]) (by kernel_rfl) (by simp) ?_
      refine AllReadyH.cons rfl (fun K hK => ?_) (AllReadyH.nil)
      go_simp
      go_at_call 5; refine (toModel_c s z _).mono ?_; rintro e w11 ⟨rfl, hb⟩
      replace HM := Blk.step hb HM
      replace HF := Blk.step hb HF
      replace H1 := Blk.step hb H1
      replace hbel := Bel.step hb hbel
      clear hb
      refine hK.out _ _ (⟨HM, HF⟩) (fun hHeld => ?_)
      clear hK K
      try simp only [Act.put, List.setIfInBounds_toArray, List.set_cons_zero, List.set_cons_succ]
      refine wpAnyH_ready (rs := [5]) (by kernel_rfl) (by simp) ?_
      refine AllReadyH.cons rfl (fun K hK => ?_) (AllReadyH.nil)
      go_simp
      go_at_call 6; refine (toFigure_c d t _).mono ?_; rintro e w15 ⟨rfl, hb⟩
      replace HM := Blk.step hb HM
      replace HF := Blk.step hb HF
      replace H1 := Blk.step hb H1
      replace hbel := Bel.step hb hbel
      clear hb
      refine hK.out _ _ (⟨HM, HF⟩) (fun hHeld => ?_)
      clear hK K
      try simp only [Act.put, List.setIfInBounds_toArray, List.set_cons_zero, List.set_cons_succ]
      refine wpAnyH_ready (rs := [6]) (by kernel_rfl) (by simp) ?_
      refine AllReadyH.cons rfl (fun K hK => ?_) (AllReadyH.nil)
      go_simp
      go_at_call 4; refine (WornFigure_S s z sc n d t _).mono ?_; rintro e w16 ⟨rfl, hb⟩
      rw [← HV.out.1, ← HV.out.2.1, ← HV.out.2.2]
      replace HM := Blk.step hb HM
      replace HF := Blk.step hb HF
      replace H1 := Blk.step hb H1
      replace hbel := Bel.step hb hbel
      clear hb
      refine hK.out _ _ (⟨HM, HF⟩) (fun hHeld => ?_)
      clear hK K
      try simp only [Act.put, List.setIfInBounds_toArray, List.set_cons_zero, List.set_cons_succ]
      refine wpAnyH_take (i := 7) (v := (.tuple #[.agg #[.int .i64 a0, .int .i64 a1], .int .i64 a2])) rfl (by kernel_rfl) (by kernel_rfl) (by kernel_rfl) (fun _ _ _ h => h) (Or.inl ⟨by rfl, fun w _ => by simp [go_sem, execOp]⟩) hHeld ?_
      try simp only [Act.put, List.setIfInBounds_toArray, List.set_cons_zero, List.set_cons_succ]
      refine wpAnyH_take (i := 8) (v := (.agg #[.int .i64 a0, .int .i64 a1])) rfl (by kernel_rfl) (by kernel_rfl) (by kernel_rfl) (fun _ _ _ h => h) (Or.inl ⟨by rfl, fun w _ => by simp [go_sem, execOp]⟩) hHeld ?_
      try simp only [Act.put, List.setIfInBounds_toArray, List.set_cons_zero, List.set_cons_succ]
      refine wpAnyH_take (i := 9) (v := (.int .i64 a2)) rfl (by kernel_rfl) (by kernel_rfl) (by kernel_rfl) (fun _ _ _ h => h) (Or.inl ⟨by rfl, fun w _ => by simp [go_sem, execOp]⟩) hHeld ?_
      try simp only [Act.put, List.setIfInBounds_toArray, List.set_cons_zero, List.set_cons_succ]
      have l0 := H1.cell 0
      have l1 := H1.cell 1
      have lf0 := H1.frozen 0
      have lf1 := H1.frozen 1
      simp only [List.getElem?_toArray, List.getElem?_cons_zero, List.getElem?_cons_succ] at l0 l1
      refine wpAnyH_ready (rs := [11]) (by kernel_rfl) (by simp) ?_
      refine AllReadyH.cons rfl (fun K hK => ?_) AllReadyH.nil
      go_simp
      refine hK.out _ _ (⟨Blk.far (p := ⟨v1.heap.size, 1, none⟩) (.int .i64 a1) (by first | omega | (simp; omega)) (Blk.far (p := ⟨v1.heap.size, 0, none⟩) (.int .i64 a0) (by first | omega | (simp; omega)) HM), Blk.far (p := ⟨v1.heap.size, 1, none⟩) (.int .i64 a1) (by first | omega | (simp; omega)) (Blk.far (p := ⟨v1.heap.size, 0, none⟩) (.int .i64 a0) (by first | omega | (simp; omega)) HF)⟩) (fun hHeld => ?_)
      clear hK K
      try simp only [Act.put, List.setIfInBounds_toArray, List.set_cons_zero, List.set_cons_succ]
      refine wpAnyH_take (i := 12) (v := (.int .i64 a2)) rfl (by kernel_rfl) (by kernel_rfl) (by kernel_rfl) (fun _ _ _ h => h) (Or.inl ⟨by rfl, fun w _ => by simp [go_sem, execOp]⟩) hHeld ?_
      try simp only [Act.put, List.setIfInBounds_toArray, List.set_cons_zero, List.set_cons_succ]
      refine wpAnyH_done (by kernel_rfl) ?_ _
      replace H1 : Blk ((w16.setCell ⟨v1.heap.size, 0, none⟩ (.int .i64 a0)).setCell ⟨v1.heap.size, 1, none⟩ (.int .i64 a1)) (v1.heap.size) 26 #[.int .i64 a0, .int .i64 a1] := by have h := (H1.set_ 0 (.int .i64 a0)).set_ 1 (.int .i64 a1); simpa using h
      replace HM := Blk.far (p := ⟨v1.heap.size, 1, none⟩) (.int .i64 a1) (by first | omega | (simp; omega)) (Blk.far (p := ⟨v1.heap.size, 0, none⟩) (.int .i64 a0) (by first | omega | (simp; omega)) HM)
      replace HF := Blk.far (p := ⟨v1.heap.size, 1, none⟩) (.int .i64 a1) (by first | omega | (simp; omega)) (Blk.far (p := ⟨v1.heap.size, 0, none⟩) (.int .i64 a0) (by first | omega | (simp; omega)) HF)
      replace hbel := Below.setCell (p := ⟨v1.heap.size, 1, none⟩) (Below.setCell (p := ⟨v1.heap.size, 0, none⟩) hbel (by first | omega | (simp; omega)) (.int .i64 a0)) (by first | omega | (simp; omega)) (.int .i64 a1)
      clear l0 l1 lf0 lf1
      generalize ((w16.setCell ⟨v1.heap.size, 0, none⟩ (.int .i64 a0)).setCell ⟨v1.heap.size, 1, none⟩ (.int .i64 a1)) = U at H1 HM HF hbel ⊢
      exact key.out _ _ H1 HM HF hbel
  · intro G1 U1 H1 HM HF hbel
    go_upto_region 2 with (fail)
    refine wp_region_held_drew (S := fun W => Blk W w.heap.size 23 #[.int .i64 s, .int .i64 z] ∧ Blk W (w.heap.size + 1) 25 #[.int .i64 d, .int .i64 t]) (by kernel_rfl) (⟨HM.drew, HF.drew⟩) (fun hHeld => ?_)
    replace HM := HM.drew
    replace HF := HF.drew
    replace H1 := H1.drew
    replace hbel := Below.drew hbel
    generalize U1.drew = v2 at HM HF H1 hbel hHeld ⊢
    refine wpAnyH_take (i := 0) (v := .agg #[.int .i64 s, .int .i64 z]) rfl (by kernel_rfl) (by kernel_rfl) (by kernel_rfl) (fun _ _ _ h => h) (yieldsIf_load_blk 23 _ (w.heap.size) (fun _ h => h.1) Try.underlying23 (by kernel_rfl) (by rfl) rfl rfl) hHeld ?_
    try simp only [Act.put, List.setIfInBounds_toArray, List.set_cons_zero, List.set_cons_succ]
    refine wpAnyH_take (i := 2) (v := (.int .i64 sc)) rfl (by kernel_rfl) (by kernel_rfl) (by kernel_rfl) (fun _ _ _ h => h) (Or.inl ⟨by rfl, fun w _ => by simp [go_sem, execOp]⟩) hHeld ?_
    try simp only [Act.put, List.setIfInBounds_toArray, List.set_cons_zero, List.set_cons_succ]
    refine wpAnyH_take (i := 3) (v := (.int .i64 n)) rfl (by kernel_rfl) (by kernel_rfl) (by kernel_rfl) (fun _ _ _ h => h) (Or.inl ⟨by rfl, fun w _ => by simp [go_sem, execOp]⟩) hHeld ?_
    try simp only [Act.put, List.setIfInBounds_toArray, List.set_cons_zero, List.set_cons_succ]
    refine wpAnyH_take (i := 4) (v := .agg #[.int .i64 d, .int .i64 t]) rfl (by kernel_rfl) (by kernel_rfl) (by kernel_rfl) (fun _ _ _ h => h) (yieldsIf_load_blk 25 _ (w.heap.size + 1) (fun _ h => h.2) Try.underlying25 (by kernel_rfl) (by rfl) rfl rfl) hHeld ?_
    try simp only [Act.put, List.setIfInBounds_toArray, List.set_cons_zero, List.set_cons_succ]
    apply cut_W
    · intro key
      refine wpAnyH_ready (rs := [1, 10]) (by kernel_rfl) (by simp) ?_
      refine AllReadyH.cons rfl (fun K hK => ?_) (AllReadyH.cons rfl (fun K hK => ?_) (AllReadyH.nil))
      · skip
        go_simp
        go_at_call 5; refine (toModel_c s z _).mono ?_; rintro e w21 ⟨rfl, hb⟩
        replace HM := Blk.step hb HM
        replace HF := Blk.step hb HF
        replace H1 := Blk.step hb H1
        replace hbel := Bel.step hb hbel
        clear hb
        refine hK.out _ _ (⟨HM, HF⟩) (fun hHeld => ?_)
        clear hK K
        try simp only [Act.put, List.setIfInBounds_toArray, List.set_cons_zero, List.set_cons_succ]
        refine wpAnyH_ready (rs := [5, 10]) (by kernel_rfl) (by simp) ?_
        refine AllReadyH.cons rfl (fun K hK => ?_) (AllReadyH.cons rfl (fun K hK => ?_) (AllReadyH.nil))
        · skip
          go_simp
          go_at_call 6; refine (toFigure_c d t _).mono ?_; rintro e w25 ⟨rfl, hb⟩
          replace HM := Blk.step hb HM
          replace HF := Blk.step hb HF
          replace H1 := Blk.step hb H1
          replace hbel := Bel.step hb hbel
          clear hb
          refine hK.out _ _ (⟨HM, HF⟩) (fun hHeld => ?_)
          clear hK K
          try simp only [Act.put, List.setIfInBounds_toArray, List.set_cons_zero, List.set_cons_succ]
          refine wpAnyH_ready (rs := [6, 10]) (by kernel_rfl) (by simp) ?_
          refine AllReadyH.cons rfl (fun K hK => ?_) (AllReadyH.cons rfl (fun K hK => ?_) (AllReadyH.nil))
          · skip
            go_simp
            go_at_call 7; refine (WornFigure_I s z sc n d t _).mono ?_; rintro e w26 ⟨rfl, hb⟩
            rw [← HV.out.1, ← HV.out.2.1, ← HV.out.2.2]
            replace HM := Blk.step hb HM
            replace HF := Blk.step hb HF
            replace H1 := Blk.step hb H1
            replace hbel := Bel.step hb hbel
            clear hb
            refine hK.out _ _ (⟨HM, HF⟩) (fun hHeld => ?_)
            clear hK K
            try simp only [Act.put, List.setIfInBounds_toArray, List.set_cons_zero, List.set_cons_succ]
            refine wpAnyH_take (i := 7) (v := (.tuple #[.agg #[.int .i64 a0, .int .i64 a1], .int .i64 a2])) rfl (by kernel_rfl) (by kernel_rfl) (by kernel_rfl) (fun _ _ _ h => h) (Or.inl ⟨by rfl, fun w _ => by simp [go_sem, execOp]⟩) hHeld ?_
            try simp only [Act.put, List.setIfInBounds_toArray, List.set_cons_zero, List.set_cons_succ]
            refine wpAnyH_take (i := 8) (v := (.agg #[.int .i64 a0, .int .i64 a1])) rfl (by kernel_rfl) (by kernel_rfl) (by kernel_rfl) (fun _ _ _ h => h) (Or.inl ⟨by rfl, fun w _ => by simp [go_sem, execOp]⟩) hHeld ?_
            try simp only [Act.put, List.setIfInBounds_toArray, List.set_cons_zero, List.set_cons_succ]
            refine wpAnyH_take (i := 9) (v := (.int .i64 a2)) rfl (by kernel_rfl) (by kernel_rfl) (by kernel_rfl) (fun _ _ _ h => h) (Or.inl ⟨by rfl, fun w _ => by simp [go_sem, execOp]⟩) hHeld ?_
            try simp only [Act.put, List.setIfInBounds_toArray, List.set_cons_zero, List.set_cons_succ]
            refine wpAnyH_ready (rs := [10]) (by kernel_rfl) (by simp) ?_
            refine AllReadyH.cons rfl (fun K hK => ?_) (AllReadyH.nil)
            go_simp
            refine hK.out _ _ (⟨Blk.alloc _ HM, Blk.alloc _ HF⟩) (fun hHeld => ?_)
            clear hK K
            try simp only [Act.put, List.setIfInBounds_toArray, List.set_cons_zero, List.set_cons_succ]
            refine wpAnyH_ready (rs := [11]) (by kernel_rfl) (by simp) ?_
            refine AllReadyH.cons rfl (fun K hK => ?_) AllReadyH.nil
            go_simp
            refine hK.out _ _ (⟨Blk.alloc _ HM, Blk.alloc _ HF⟩) (fun hHeld => ?_)
            clear hK K
            try simp only [Act.put, List.setIfInBounds_toArray, List.set_cons_zero, List.set_cons_succ]
            refine wpAnyH_take (i := 12) (v := (.int .i64 a2)) rfl (by kernel_rfl) (by kernel_rfl) (by kernel_rfl) (fun _ _ _ h => h) (Or.inl ⟨by rfl, fun w _ => by simp [go_sem, execOp]⟩) hHeld ?_
            try simp only [Act.put, List.setIfInBounds_toArray, List.set_cons_zero, List.set_cons_succ]
            refine wpAnyH_done (by kernel_rfl) ?_ _
            have H2 := Blk.new w26 26 #[.int .i64 a0, .int .i64 a1]
            replace HM := Blk.alloc (.cells #[.int .i64 a0, .int .i64 a1] 26) HM
            replace HF := Blk.alloc (.cells #[.int .i64 a0, .int .i64 a1] 26) HF
            replace H1 := Blk.alloc (.cells #[.int .i64 a0, .int .i64 a1] 26) H1
            replace hbel := Bel.alloc hbel (.cells #[.int .i64 a0, .int .i64 a1] 26)
            generalize w26.alloc (.cells #[.int .i64 a0, .int .i64 a1] 26) = U at H2 HM HF H1 hbel ⊢
            generalize w26.heap.size = G at H2 ⊢
            revert hbel; revert H1; revert HF; revert HM; revert H2
            revert U; revert G
            exact key.out
          · skip
            go_simp
            have H2 := Blk.new w25 26 #[.int .i64 0, .int .i64 0]
            have hq0 : _ < w25.heap.size := HM.lt
            have hq1 : _ < w25.heap.size := HF.lt
            have hq2 : _ < w25.heap.size := H1.lt
            have hqb := hbel.size
            replace HM := Blk.alloc (.cells #[.int .i64 0, .int .i64 0] 26) HM
            replace HF := Blk.alloc (.cells #[.int .i64 0, .int .i64 0] 26) HF
            replace H1 := Blk.alloc (.cells #[.int .i64 0, .int .i64 0] 26) H1
            replace hbel := Bel.alloc hbel (.cells #[.int .i64 0, .int .i64 0] 26)
            refine hK.out _ _ (⟨HM, HF⟩) (fun hHeld => ?_)
            clear hK K
            try simp only [Act.put, List.setIfInBounds_toArray, List.set_cons_zero, List.set_cons_succ]
            refine wpAnyH_ready (rs := [6]) (by kernel_rfl) (by simp) ?_
            refine AllReadyH.cons rfl (fun K hK => ?_) (AllReadyH.nil)
            go_simp
            go_at_call 7; refine (WornFigure_I s z sc n d t _).mono ?_; rintro e w26 ⟨rfl, hb⟩
            rw [← HV.out.1, ← HV.out.2.1, ← HV.out.2.2]
            replace HM := Blk.step hb HM
            replace HF := Blk.step hb HF
            replace H1 := Blk.step hb H1
            replace H2 := Blk.step hb H2
            replace hbel := Bel.step hb hbel
            clear hb
            refine hK.out _ _ (⟨HM, HF⟩) (fun hHeld => ?_)
            clear hK K
            try simp only [Act.put, List.setIfInBounds_toArray, List.set_cons_zero, List.set_cons_succ]
            refine wpAnyH_take (i := 7) (v := (.tuple #[.agg #[.int .i64 a0, .int .i64 a1], .int .i64 a2])) rfl (by kernel_rfl) (by kernel_rfl) (by kernel_rfl) (fun _ _ _ h => h) (Or.inl ⟨by rfl, fun w _ => by simp [go_sem, execOp]⟩) hHeld ?_
            try simp only [Act.put, List.setIfInBounds_toArray, List.set_cons_zero, List.set_cons_succ]
            refine wpAnyH_take (i := 8) (v := (.agg #[.int .i64 a0, .int .i64 a1])) rfl (by kernel_rfl) (by kernel_rfl) (by kernel_rfl) (fun _ _ _ h => h) (Or.inl ⟨by rfl, fun w _ => by simp [go_sem, execOp]⟩) hHeld ?_
            try simp only [Act.put, List.setIfInBounds_toArray, List.set_cons_zero, List.set_cons_succ]
            refine wpAnyH_take (i := 9) (v := (.int .i64 a2)) rfl (by kernel_rfl) (by kernel_rfl) (by kernel_rfl) (fun _ _ _ h => h) (Or.inl ⟨by rfl, fun w _ => by simp [go_sem, execOp]⟩) hHeld ?_
            try simp only [Act.put, List.setIfInBounds_toArray, List.set_cons_zero, List.set_cons_succ]
            have l0 := H2.cell 0
            have l1 := H2.cell 1
            have lf0 := H2.frozen 0
            have lf1 := H2.frozen 1
            simp only [List.getElem?_toArray, List.getElem?_cons_zero, List.getElem?_cons_succ] at l0 l1
            refine wpAnyH_ready (rs := [11]) (by kernel_rfl) (by simp) ?_
            refine AllReadyH.cons rfl (fun K hK => ?_) AllReadyH.nil
            go_simp
            refine hK.out _ _ (⟨Blk.far (p := ⟨w25.heap.size, 1, none⟩) (.int .i64 a1) (by first | omega | (simp; omega)) (Blk.far (p := ⟨w25.heap.size, 0, none⟩) (.int .i64 a0) (by first | omega | (simp; omega)) HM), Blk.far (p := ⟨w25.heap.size, 1, none⟩) (.int .i64 a1) (by first | omega | (simp; omega)) (Blk.far (p := ⟨w25.heap.size, 0, none⟩) (.int .i64 a0) (by first | omega | (simp; omega)) HF)⟩) (fun hHeld => ?_)
            clear hK K
            try simp only [Act.put, List.setIfInBounds_toArray, List.set_cons_zero, List.set_cons_succ]
            refine wpAnyH_take (i := 12) (v := (.int .i64 a2)) rfl (by kernel_rfl) (by kernel_rfl) (by kernel_rfl) (fun _ _ _ h => h) (Or.inl ⟨by rfl, fun w _ => by simp [go_sem, execOp]⟩) hHeld ?_
            try simp only [Act.put, List.setIfInBounds_toArray, List.set_cons_zero, List.set_cons_succ]
            refine wpAnyH_done (by kernel_rfl) ?_ _
            replace H2 : Blk ((w26.setCell ⟨w25.heap.size, 0, none⟩ (.int .i64 a0)).setCell ⟨w25.heap.size, 1, none⟩ (.int .i64 a1)) (w25.heap.size) 26 #[.int .i64 a0, .int .i64 a1] := by have h := (H2.set_ 0 (.int .i64 a0)).set_ 1 (.int .i64 a1); simpa using h
            replace HM := Blk.far (p := ⟨w25.heap.size, 1, none⟩) (.int .i64 a1) (by first | omega | (simp; omega)) (Blk.far (p := ⟨w25.heap.size, 0, none⟩) (.int .i64 a0) (by first | omega | (simp; omega)) HM)
            replace HF := Blk.far (p := ⟨w25.heap.size, 1, none⟩) (.int .i64 a1) (by first | omega | (simp; omega)) (Blk.far (p := ⟨w25.heap.size, 0, none⟩) (.int .i64 a0) (by first | omega | (simp; omega)) HF)
            replace H1 := Blk.far (p := ⟨w25.heap.size, 1, none⟩) (.int .i64 a1) (by first | omega | (simp; omega)) (Blk.far (p := ⟨w25.heap.size, 0, none⟩) (.int .i64 a0) (by first | omega | (simp; omega)) H1)
            replace hbel := Below.setCell (p := ⟨w25.heap.size, 1, none⟩) (Below.setCell (p := ⟨w25.heap.size, 0, none⟩) hbel (by first | omega | (simp; omega)) (.int .i64 a0)) (by first | omega | (simp; omega)) (.int .i64 a1)
            clear l0 l1 lf0 lf1
            generalize ((w26.setCell ⟨w25.heap.size, 0, none⟩ (.int .i64 a0)).setCell ⟨w25.heap.size, 1, none⟩ (.int .i64 a1)) = U at H2 HM HF H1 hbel ⊢
            exact key.out _ _ H2 HM HF H1 hbel
        · skip
          go_simp
          have H2 := Blk.new w21 26 #[.int .i64 0, .int .i64 0]
          have hq0 : _ < w21.heap.size := HM.lt
          have hq1 : _ < w21.heap.size := HF.lt
          have hq2 : _ < w21.heap.size := H1.lt
          have hqb := hbel.size
          replace HM := Blk.alloc (.cells #[.int .i64 0, .int .i64 0] 26) HM
          replace HF := Blk.alloc (.cells #[.int .i64 0, .int .i64 0] 26) HF
          replace H1 := Blk.alloc (.cells #[.int .i64 0, .int .i64 0] 26) H1
          replace hbel := Bel.alloc hbel (.cells #[.int .i64 0, .int .i64 0] 26)
          refine hK.out _ _ (⟨HM, HF⟩) (fun hHeld => ?_)
          clear hK K
          try simp only [Act.put, List.setIfInBounds_toArray, List.set_cons_zero, List.set_cons_succ]
          refine wpAnyH_ready (rs := [5]) (by kernel_rfl) (by simp) ?_
          refine AllReadyH.cons rfl (fun K hK => ?_) (AllReadyH.nil)
          go_simp
          go_at_call 6; refine (toFigure_c d t _).mono ?_; rintro e w25 ⟨rfl, hb⟩
          replace HM := Blk.step hb HM
          replace HF := Blk.step hb HF
          replace H1 := Blk.step hb H1
          replace H2 := Blk.step hb H2
          replace hbel := Bel.step hb hbel
          clear hb
          refine hK.out _ _ (⟨HM, HF⟩) (fun hHeld => ?_)
          clear hK K
          try simp only [Act.put, List.setIfInBounds_toArray, List.set_cons_zero, List.set_cons_succ]
          refine wpAnyH_ready (rs := [6]) (by kernel_rfl) (by simp) ?_
          refine AllReadyH.cons rfl (fun K hK => ?_) (AllReadyH.nil)
          go_simp
          go_at_call 7; refine (WornFigure_I s z sc n d t _).mono ?_; rintro e w26 ⟨rfl, hb⟩
          rw [← HV.out.1, ← HV.out.2.1, ← HV.out.2.2]
          replace HM := Blk.step hb HM
          replace HF := Blk.step hb HF
          replace H1 := Blk.step hb H1
          replace H2 := Blk.step hb H2
          replace hbel := Bel.step hb hbel
          clear hb
          refine hK.out _ _ (⟨HM, HF⟩) (fun hHeld => ?_)
          clear hK K
          try simp only [Act.put, List.setIfInBounds_toArray, List.set_cons_zero, List.set_cons_succ]
          refine wpAnyH_take (i := 7) (v := (.tuple #[.agg #[.int .i64 a0, .int .i64 a1], .int .i64 a2])) rfl (by kernel_rfl) (by kernel_rfl) (by kernel_rfl) (fun _ _ _ h => h) (Or.inl ⟨by rfl, fun w _ => by simp [go_sem, execOp]⟩) hHeld ?_
          try simp only [Act.put, List.setIfInBounds_toArray, List.set_cons_zero, List.set_cons_succ]
          refine wpAnyH_take (i := 8) (v := (.agg #[.int .i64 a0, .int .i64 a1])) rfl (by kernel_rfl) (by kernel_rfl) (by kernel_rfl) (fun _ _ _ h => h) (Or.inl ⟨by rfl, fun w _ => by simp [go_sem, execOp]⟩) hHeld ?_
          try simp only [Act.put, List.setIfInBounds_toArray, List.set_cons_zero, List.set_cons_succ]
          refine wpAnyH_take (i := 9) (v := (.int .i64 a2)) rfl (by kernel_rfl) (by kernel_rfl) (by kernel_rfl) (fun _ _ _ h => h) (Or.inl ⟨by rfl, fun w _ => by simp [go_sem, execOp]⟩) hHeld ?_
          try simp only [Act.put, List.setIfInBounds_toArray, List.set_cons_zero, List.set_cons_succ]
          have l0 := H2.cell 0
          have l1 := H2.cell 1
          have lf0 := H2.frozen 0
          have lf1 := H2.frozen 1
          simp only [List.getElem?_toArray, List.getElem?_cons_zero, List.getElem?_cons_succ] at l0 l1
          refine wpAnyH_ready (rs := [11]) (by kernel_rfl) (by simp) ?_
          refine AllReadyH.cons rfl (fun K hK => ?_) AllReadyH.nil
          go_simp
          refine hK.out _ _ (⟨Blk.far (p := ⟨w21.heap.size, 1, none⟩) (.int .i64 a1) (by first | omega | (simp; omega)) (Blk.far (p := ⟨w21.heap.size, 0, none⟩) (.int .i64 a0) (by first | omega | (simp; omega)) HM), Blk.far (p := ⟨w21.heap.size, 1, none⟩) (.int .i64 a1) (by first | omega | (simp; omega)) (Blk.far (p := ⟨w21.heap.size, 0, none⟩) (.int .i64 a0) (by first | omega | (simp; omega)) HF)⟩) (fun hHeld => ?_)
          clear hK K
          try simp only [Act.put, List.setIfInBounds_toArray, List.set_cons_zero, List.set_cons_succ]
          refine wpAnyH_take (i := 12) (v := (.int .i64 a2)) rfl (by kernel_rfl) (by kernel_rfl) (by kernel_rfl) (fun _ _ _ h => h) (Or.inl ⟨by rfl, fun w _ => by simp [go_sem, execOp]⟩) hHeld ?_
          try simp only [Act.put, List.setIfInBounds_toArray, List.set_cons_zero, List.set_cons_succ]
          refine wpAnyH_done (by kernel_rfl) ?_ _
          replace H2 : Blk ((w26.setCell ⟨w21.heap.size, 0, none⟩ (.int .i64 a0)).setCell ⟨w21.heap.size, 1, none⟩ (.int .i64 a1)) (w21.heap.size) 26 #[.int .i64 a0, .int .i64 a1] := by have h := (H2.set_ 0 (.int .i64 a0)).set_ 1 (.int .i64 a1); simpa using h
          replace HM := Blk.far (p := ⟨w21.heap.size, 1, none⟩) (.int .i64 a1) (by first | omega | (simp; omega)) (Blk.far (p := ⟨w21.heap.size, 0, none⟩) (.int .i64 a0) (by first | omega | (simp; omega)) HM)
          replace HF := Blk.far (p := ⟨w21.heap.size, 1, none⟩) (.int .i64 a1) (by first | omega | (simp; omega)) (Blk.far (p := ⟨w21.heap.size, 0, none⟩) (.int .i64 a0) (by first | omega | (simp; omega)) HF)
          replace H1 := Blk.far (p := ⟨w21.heap.size, 1, none⟩) (.int .i64 a1) (by first | omega | (simp; omega)) (Blk.far (p := ⟨w21.heap.size, 0, none⟩) (.int .i64 a0) (by first | omega | (simp; omega)) H1)
          replace hbel := Below.setCell (p := ⟨w21.heap.size, 1, none⟩) (Below.setCell (p := ⟨w21.heap.size, 0, none⟩) hbel (by first | omega | (simp; omega)) (.int .i64 a0)) (by first | omega | (simp; omega)) (.int .i64 a1)
          clear l0 l1 lf0 lf1
          generalize ((w26.setCell ⟨w21.heap.size, 0, none⟩ (.int .i64 a0)).setCell ⟨w21.heap.size, 1, none⟩ (.int .i64 a1)) = U at H2 HM HF H1 hbel ⊢
          exact key.out _ _ H2 HM HF H1 hbel
      · skip
        go_simp
        have H2 := Blk.new v2 26 #[.int .i64 0, .int .i64 0]
        have hq0 : _ < v2.heap.size := HM.lt
        have hq1 : _ < v2.heap.size := HF.lt
        have hq2 : _ < v2.heap.size := H1.lt
        have hqb := hbel.size
        replace HM := Blk.alloc (.cells #[.int .i64 0, .int .i64 0] 26) HM
        replace HF := Blk.alloc (.cells #[.int .i64 0, .int .i64 0] 26) HF
        replace H1 := Blk.alloc (.cells #[.int .i64 0, .int .i64 0] 26) H1
        replace hbel := Bel.alloc hbel (.cells #[.int .i64 0, .int .i64 0] 26)
        refine hK.out _ _ (⟨HM, HF⟩) (fun hHeld => ?_)
        clear hK K
        try simp only [Act.put, List.setIfInBounds_toArray, List.set_cons_zero, List.set_cons_succ]
        refine wpAnyH_ready (rs := [1]) (by kernel_rfl) (by simp) ?_
        refine AllReadyH.cons rfl (fun K hK => ?_) (AllReadyH.nil)
        go_simp
        go_at_call 5; refine (toModel_c s z _).mono ?_; rintro e w21 ⟨rfl, hb⟩
        replace HM := Blk.step hb HM
        replace HF := Blk.step hb HF
        replace H1 := Blk.step hb H1
        replace H2 := Blk.step hb H2
        replace hbel := Bel.step hb hbel
        clear hb
        refine hK.out _ _ (⟨HM, HF⟩) (fun hHeld => ?_)
        clear hK K
        try simp only [Act.put, List.setIfInBounds_toArray, List.set_cons_zero, List.set_cons_succ]
        refine wpAnyH_ready (rs := [5]) (by kernel_rfl) (by simp) ?_
        refine AllReadyH.cons rfl (fun K hK => ?_) (AllReadyH.nil)
        go_simp
        go_at_call 6; refine (toFigure_c d t _).mono ?_; rintro e w25 ⟨rfl, hb⟩
        replace HM := Blk.step hb HM
        replace HF := Blk.step hb HF
        replace H1 := Blk.step hb H1
        replace H2 := Blk.step hb H2
        replace hbel := Bel.step hb hbel
        clear hb
        refine hK.out _ _ (⟨HM, HF⟩) (fun hHeld => ?_)
        clear hK K
        try simp only [Act.put, List.setIfInBounds_toArray, List.set_cons_zero, List.set_cons_succ]
        refine wpAnyH_ready (rs := [6]) (by kernel_rfl) (by simp) ?_
        refine AllReadyH.cons rfl (fun K hK => ?_) (AllReadyH.nil)
        go_simp
        go_at_call 7; refine (WornFigure_I s z sc n d t _).mono ?_; rintro e w26 ⟨rfl, hb⟩
        rw [← HV.out.1, ← HV.out.2.1, ← HV.out.2.2]
        replace HM := Blk.step hb HM
        replace HF := Blk.step hb HF
        replace H1 := Blk.step hb H1
        replace H2 := Blk.step hb H2
        replace hbel := Bel.step hb hbel
        clear hb
        refine hK.out _ _ (⟨HM, HF⟩) (fun hHeld => ?_)
        clear hK K
        try simp only [Act.put, List.setIfInBounds_toArray, List.set_cons_zero, List.set_cons_succ]
        refine wpAnyH_take (i := 7) (v := (.tuple #[.agg #[.int .i64 a0, .int .i64 a1], .int .i64 a2])) rfl (by kernel_rfl) (by kernel_rfl) (by kernel_rfl) (fun _ _ _ h => h) (Or.inl ⟨by rfl, fun w _ => by simp [go_sem, execOp]⟩) hHeld ?_
        try simp only [Act.put, List.setIfInBounds_toArray, List.set_cons_zero, List.set_cons_succ]
        refine wpAnyH_take (i := 8) (v := (.agg #[.int .i64 a0, .int .i64 a1])) rfl (by kernel_rfl) (by kernel_rfl) (by kernel_rfl) (fun _ _ _ h => h) (Or.inl ⟨by rfl, fun w _ => by simp [go_sem, execOp]⟩) hHeld ?_
        try simp only [Act.put, List.setIfInBounds_toArray, List.set_cons_zero, List.set_cons_succ]
        refine wpAnyH_take (i := 9) (v := (.int .i64 a2)) rfl (by kernel_rfl) (by kernel_rfl) (by kernel_rfl) (fun _ _ _ h => h) (Or.inl ⟨by rfl, fun w _ => by simp [go_sem, execOp]⟩) hHeld ?_
        try simp only [Act.put, List.setIfInBounds_toArray, List.set_cons_zero, List.set_cons_succ]
        have l0 := H2.cell 0
        have l1 := H2.cell 1
        have lf0 := H2.frozen 0
        have lf1 := H2.frozen 1
        simp only [List.getElem?_toArray, List.getElem?_cons_zero, List.getElem?_cons_succ] at l0 l1
        refine wpAnyH_ready (rs := [11]) (by kernel_rfl) (by simp) ?_
        refine AllReadyH.cons rfl (fun K hK => ?_) AllReadyH.nil
        go_simp
        refine hK.out _ _ (⟨Blk.far (p := ⟨v2.heap.size, 1, none⟩) (.int .i64 a1) (by first | omega | (simp; omega)) (Blk.far (p := ⟨v2.heap.size, 0, none⟩) (.int .i64 a0) (by first | omega | (simp; omega)) HM), Blk.far (p := ⟨v2.heap.size, 1, none⟩) (.int .i64 a1) (by first | omega | (simp; omega)) (Blk.far (p := ⟨v2.heap.size, 0, none⟩) (.int .i64 a0) (by first | omega | (simp; omega)) HF)⟩) (fun hHeld => ?_)
        clear hK K
        try simp only [Act.put, List.setIfInBounds_toArray, List.set_cons_zero, List.set_cons_succ]
        refine wpAnyH_take (i := 12) (v := (.int .i64 a2)) rfl (by kernel_rfl) (by kernel_rfl) (by kernel_rfl) (fun _ _ _ h => h) (Or.inl ⟨by rfl, fun w _ => by simp [go_sem, execOp]⟩) hHeld ?_
        try simp only [Act.put, List.setIfInBounds_toArray, List.set_cons_zero, List.set_cons_succ]
        refine wpAnyH_done (by kernel_rfl) ?_ _
        replace H2 : Blk ((w26.setCell ⟨v2.heap.size, 0, none⟩ (.int .i64 a0)).setCell ⟨v2.heap.size, 1, none⟩ (.int .i64 a1)) (v2.heap.size) 26 #[.int .i64 a0, .int .i64 a1] := by have h := (H2.set_ 0 (.int .i64 a0)).set_ 1 (.int .i64 a1); simpa using h
        replace HM := Blk.far (p := ⟨v2.heap.size, 1, none⟩) (.int .i64 a1) (by first | omega | (simp; omega)) (Blk.far (p := ⟨v2.heap.size, 0, none⟩) (.int .i64 a0) (by first | omega | (simp; omega)) HM)
        replace HF := Blk.far (p := ⟨v2.heap.size, 1, none⟩) (.int .i64 a1) (by first | omega | (simp; omega)) (Blk.far (p := ⟨v2.heap.size, 0, none⟩) (.int .i64 a0) (by first | omega | (simp; omega)) HF)
        replace H1 := Blk.far (p := ⟨v2.heap.size, 1, none⟩) (.int .i64 a1) (by first | omega | (simp; omega)) (Blk.far (p := ⟨v2.heap.size, 0, none⟩) (.int .i64 a0) (by first | omega | (simp; omega)) H1)
        replace hbel := Below.setCell (p := ⟨v2.heap.size, 1, none⟩) (Below.setCell (p := ⟨v2.heap.size, 0, none⟩) hbel (by first | omega | (simp; omega)) (.int .i64 a0)) (by first | omega | (simp; omega)) (.int .i64 a1)
        clear l0 l1 lf0 lf1
        generalize ((w26.setCell ⟨v2.heap.size, 0, none⟩ (.int .i64 a0)).setCell ⟨v2.heap.size, 1, none⟩ (.int .i64 a1)) = U at H2 HM HF H1 hbel ⊢
        exact key.out _ _ H2 HM HF H1 hbel
    · intro G2 U2 H2 HM HF H1 hbel
      have x0 : U2.cell? ⟨G1, 0, none⟩ = some (.int .i64 a0) := by rw [H1.cell]; rfl
      have x1 : U2.cell? ⟨G1, 1, none⟩ = some (.int .i64 a1) := by rw [H1.cell]; rfl
      have y0 : U2.cell? ⟨G2, 0, none⟩ = some (.int .i64 a0) := by rw [H2.cell]; rfl
      have y1 : U2.cell? ⟨G2, 1, none⟩ = some (.int .i64 a1) := by rw [H2.cell]; rfl
      go_wp2_with fail
      go_at_call 8; refine (eqFigure_c a0 a1 a0 a1 _).mono ?_; rintro e w9 ⟨rfl, hb⟩
      rw [eqP_self]
      replace hbel := Bel.step hb hbel
      clear hb x0 x1 y0 y1
      go_wp2
      go_ret
      exact ⟨rfl, hbel⟩
end Go.Proofs.Ytlphcpmneioogaa
