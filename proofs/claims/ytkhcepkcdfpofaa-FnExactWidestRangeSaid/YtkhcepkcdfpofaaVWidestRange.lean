/- The statement FnExactWidestRange, walked. No conditions. -/
import Derived.Test.YtkhcepkcdfpofaaProg
import Derived.Test.YtkhcepkcdfpofaaBase
import Derived.Test.YtkhcepkcdfpofaaRw
import Derived.Test.YtkhcepkcdfpofaaRg
import Derived.Test.YtkhcepkcdfpofaaRp
import Derived.Test.YtkhcepkcdfpofaaRq
import Derived.Test.YtkhcepkcdfpofaaL01
import Derived.Test.YtkhcepkcdfpofaaCp
import Derived.Test.YtkhcepkcdfpofaaCh
import Derived.Test.YtkhcepkcdfpofaaCm
import Derived.Test.YtkhcepkcdfpofaaL18
import Derived.Test.YtkhcepkcdfpofaaL18c
import Derived.Test.YtkhcepkcdfpofaaL23
import Derived.Test.YtkhcepkcdfpofaaL23b
import Derived.Test.YtkhcepkcdfpofaaW23
import Derived.Test.YtkhcepkcdfpofaaL03
import Derived.Test.YtkhcepkcdfpofaaL23d
import Derived.Test.YtkhcepkcdfpofaaL23e
import Derived.Test.YtkhcepkcdfpofaaL23f
import Derived.Test.YtkhcepkcdfpofaaL24
import Derived.Test.YtkhcepkcdfpofaaL24b
import Derived.Test.YtkhcepkcdfpofaaL23g
import Derived.Test.YtkhcepkcdfpofaaL23h
import Derived.Test.YtkhcepkcdfpofaaL27o
import Derived.Test.YtkhcepkcdfpofaaL27a
import Derived.Test.YtkhcepkcdfpofaaL27b
import Derived.Test.YtkhcepkcdfpofaaL27v
import Derived.Test.YtkhcepkcdfpofaaL27w
import Derived.Test.YtkhcepkcdfpofaaW27
import Derived.WalkKit
import Derived.WalkSpells
import Derived.WalkLawsBesides
import Derived.Lib.Hide
import Derived.Deep.QuietTactic
import Derived.BigQuiet
import Derived.Deep.Draws
import Derived.Deep.RegionHeld3
import Derived.Deep.Cut
import Derived.Deep.WholeRow
namespace Go.Proofs.Ytkhcepkcdfpofaa
open Go.RowKit
set_option linter.unusedVariables false
set_option linter.unusedSimpArgs false
/-- A fact that the walk does not look into. -/
structure BoxWr (P : Prop) : Prop where
  out : P
theorem cut_Wr {G : Prop} (P : Prop) (k : BoxWr P → G) (h : P) : G := k ⟨h⟩
theorem step_store_blk {P : Program} {w : World} {ops : Array Oper} {o : Oper} {a : Act} {K : Act → World → Prop} {Q : Exit → Act → World → Prop} {E : Prop} (ty : TypeId) (x y : Operand) (g : Nat) {cs old : Array Value} {t : TypeId} (hB : Blk w g t old)
    (hi : (P.info? ty).map (·.size) = some cs.size) (hold : old.size = cs.size) (h1 : cs.all (·.oneCell') = true) (hgd : o.guard = none) (hd : o.dst = none) (ho : o.op = .store ty x y) (hx : a.eval x = .pointer (some ⟨g, 0, none⟩)) (hy : a.eval y = .agg cs)
    (h : K a (w.setRow g cs)) : if Region.wanted o (yielded ops a.tmps) = true then Oper.wp P o a w K Q else E := by
  have hw : Region.wanted o (yielded ops a.tmps) = true := by simp [Region.wanted, hgd]
  rw [if_pos hw]
  exact wp_store_row ty x y ho g cs hx hy t old hB hi hold h1 (by rw [hd]; exact h)
theorem wrV_len {R : Re} {hd ht : Int} (hn : R.ch.zs.length ≤ 1048576) : (wrV R hd ht).ch.zs.length ≤ 1048576 := by
  unfold wrV
  split
  · exact hn
  · simp [ZR]
set_option maxRecDepth 50000 in
set_option maxHeartbeats 20000000 in
theorem FnExactWidestRange_w (w : World) (R : Re) (A : Option Addr) (c : Nat) (hl : R.ch.zs.length ≤ 9223372036854775807) (hA : Ints w A R.ch.zs) (hs : R.ch.nm.size ≤ 9223372036854775807) (hd ht : Int) (ghd : (Lit.int .i64 hd).wf = true) (ght : (Lit.int .i64 ht).wf = true) :
    Calls Try.prog 7 #[.agg #[.int .i64 R.ch.dg, .int .i64 R.ch.tn, .string R.ch.nm, .slice A R.ch.zs.length c, .int .i64 R.ch.wd, .int .i64 R.ch.lf, .int .i64 R.ch.rt, .int .i64 R.ad, .int .i64 R.at_, .int .i64 R.bd, .int .i64 R.bt, .int .i64 R.cd, .int .i64 R.ct, .int .i64 R.dd, .int .i64 R.dt, .int .i64 R.ey, .int .i64 R.bo], .agg #[.int .i64 hd, .int .i64 ht]] w fun e w' => e = .returned (.bool true) ∧ Below w.heap.size w w' := by
  by_cases hz : R.ch.nm.size + R.ch.zs.length ≤ 1048576
  rotate_left
  · have HZ := Lib.hid (sz2_no hz)
    go_enter Try.func7, Try.ntmps7
    go_wp2_with fail
    go_at_call 27; refine (szRelease_c _ _ _ _ (by omega) (by omega) (by assumption) (by assumption) _).mono ?_; rintro e w1 ⟨rfl, hb1⟩; obtain ⟨hc1, hf1, hz1⟩ := bel hb1; (try simp only [World.size_drew, World.cell?_drew, World.frozen?_drew] at hc1 hf1 hz1); (try simp only [World.heap_drewN, World.cell?_drewN, World.frozen?_drewN] at hc1 hf1 hz1); (try have hl1 : w.heap.size < w1.heap.size := by (have hq := hb1.size; (try simp at hq); omega)); (try have hm1 : w.heap.size + 1 < w1.heap.size := by (have hq := hb1.size; (try simp at hq); omega)); (try have hn1 : w.heap.size + 1 + 1 < w1.heap.size := by (have hq := hb1.size; (try simp at hq); omega)); (try have hp1 : b < w1.heap.size := by (have hq := hb1.size; (try simp at hq); omega)); (try have ho1 : b' < w1.heap.size := by (have hq := hb1.size; (try simp at hq); omega))
    rw [HZ.out]
    go_wp2
    go_ret
    exact ⟨rfl, by repeat (with_reducible first | exact Below.refl _ _ | assumption | refine Bel.alloc ?_ _ | refine Bel.step (by assumption) ?_ | refine Below.drew ?_ | refine Bel.drewN ?_ _ | refine Below.setCell ?_ (by first | exact Nat.le_refl _ | omega | (simp; done) | (simp; omega)) _)⟩
  have HZ := Lib.hid (sz2_ok hz)
  have hn : R.ch.zs.length ≤ 1048576 := by omega
  have hm : R.ch.nm.size ≤ 1048576 := by omega
  have hn0 : (0 : Int) ≤ 1048576 - R.ch.nm.size - R.ch.zs.length := by omega
  have hdl := wrV_len (hd := hd) (ht := ht) hn
  clear hz
  go_enter Try.func7, Try.ntmps7
  go_wp2_with fail
  go_at_call 27; refine (szRelease_c _ _ _ _ (by omega) (by omega) (by assumption) (by assumption) _).mono ?_; rintro e w1 ⟨rfl, hb1⟩; obtain ⟨hc1, hf1, hz1⟩ := bel hb1; (try simp only [World.size_drew, World.cell?_drew, World.frozen?_drew] at hc1 hf1 hz1); (try simp only [World.heap_drewN, World.cell?_drewN, World.frozen?_drewN] at hc1 hf1 hz1); (try have hl1 : w.heap.size < w1.heap.size := by (have hq := hb1.size; (try simp at hq); omega)); (try have hm1 : w.heap.size + 1 < w1.heap.size := by (have hq := hb1.size; (try simp at hq); omega)); (try have hn1 : w.heap.size + 1 + 1 < w1.heap.size := by (have hq := hb1.size; (try simp at hq); omega)); (try have hp1 : b < w1.heap.size := by (have hq := hb1.size; (try simp at hq); omega)); (try have ho1 : b' < w1.heap.size := by (have hq := hb1.size; (try simp at hq); omega))
  rw [HZ.out]
  have hbel1 : Below w.heap.size w w1 := by repeat (with_reducible first | exact Below.refl _ _ | assumption | refine Bel.alloc ?_ _ | refine Bel.step (by assumption) ?_ | refine Below.drew ?_ | refine Bel.drewN ?_ _ | refine Below.setCell ?_ (by first | exact Nat.le_refl _ | omega | (simp; done) | (simp; omega)) _)
  have HB1 : Blk w1 w.heap.size 52 #[.int .i64 R.ch.dg, .int .i64 R.ch.tn, .string R.ch.nm, .slice A R.ch.zs.length c, .int .i64 R.ch.wd, .int .i64 R.ch.lf, .int .i64 R.ch.rt, .int .i64 R.ad, .int .i64 R.at_, .int .i64 R.bd, .int .i64 R.bt, .int .i64 R.cd, .int .i64 R.ct, .int .i64 R.dd, .int .i64 R.dt, .int .i64 R.ey, .int .i64 R.bo] := Blk.step hb1 (Blk.alloc _ (Blk.new _ _ _))
  have HF1 : Blk w1 (w.heap.size + 1) 23 #[.int .i64 hd, .int .i64 ht] := Blk.step hb1 (by have h := Blk.new (w.alloc (.cells #[.int .i64 R.ch.dg, .int .i64 R.ch.tn, .string R.ch.nm, .slice A R.ch.zs.length c, .int .i64 R.ch.wd, .int .i64 R.ch.lf, .int .i64 R.ch.rt, .int .i64 R.ad, .int .i64 R.at_, .int .i64 R.bd, .int .i64 R.bt, .int .i64 R.cd, .int .i64 R.ct, .int .i64 R.dd, .int .i64 R.dt, .int .i64 R.ey, .int .i64 R.bo] 52)) 23 #[.int .i64 hd, .int .i64 ht]; simp only [World.size_alloc] at h; exact h)
  have s1 := HF1.lt
  have HI1 := Ints.step hbel1 hA
  clear hb1 hc1 hf1 hz1
  go_upto_region 5 with (fail)
  apply cut_Wr
  · intro key
    refine wp_region_held_drew (S := fun W => Blk W (w.heap.size) 52 #[.int .i64 R.ch.dg, .int .i64 R.ch.tn, .string R.ch.nm, .slice A R.ch.zs.length c, .int .i64 R.ch.wd, .int .i64 R.ch.lf, .int .i64 R.ch.rt, .int .i64 R.ad, .int .i64 R.at_, .int .i64 R.bd, .int .i64 R.bt, .int .i64 R.cd, .int .i64 R.ct, .int .i64 R.dd, .int .i64 R.dt, .int .i64 R.ey, .int .i64 R.bo] ∧ Blk W (w.heap.size + 1) 23 #[.int .i64 hd, .int .i64 ht]) (by kernel_rfl) (⟨Blk.drew HB1, Blk.drew HF1⟩) (fun hHeld => ?_)
    have hbel : Below w1.heap.size w1 w1.drew := Below.drew (Below.refl _ _)
    have hsz : w1.heap.size ≤ w1.drew.heap.size := Nat.le_refl _
    generalize w1.drew = wA at hHeld hbel hsz ⊢
    refine wpAnyH_take (i := 0) (v := .agg #[.int .i64 R.ch.dg, .int .i64 R.ch.tn, .string R.ch.nm, .slice A R.ch.zs.length c, .int .i64 R.ch.wd, .int .i64 R.ch.lf, .int .i64 R.ch.rt, .int .i64 R.ad, .int .i64 R.at_, .int .i64 R.bd, .int .i64 R.bt, .int .i64 R.cd, .int .i64 R.ct, .int .i64 R.dd, .int .i64 R.dt, .int .i64 R.ey, .int .i64 R.bo]) rfl (by kernel_rfl) (by kernel_rfl) (by kernel_rfl) (fun _ _ _ h => h) (yieldsIf_load_blk 52 _ (w.heap.size) (fun _ h => h.1) Try.underlying52 (by kernel_rfl) (by rfl) rfl rfl) hHeld ?_
    try simp only [Act.put, List.setIfInBounds_toArray, List.set_cons_zero, List.set_cons_succ]
    refine wpAnyH_take (i := 2) (v := .agg #[.int .i64 hd, .int .i64 ht]) rfl (by kernel_rfl) (by kernel_rfl) (by kernel_rfl) (fun _ _ _ h => h) (yieldsIf_load_blk 23 _ (w.heap.size + 1) (fun _ h => h.2) Try.underlying23 (by kernel_rfl) (by rfl) rfl rfl) hHeld ?_
    try simp only [Act.put, List.setIfInBounds_toArray, List.set_cons_zero, List.set_cons_succ]
    refine wpAnyH_ready (rs := [1, 8]) (by kernel_rfl) (by simp) ?_
    refine AllReadyH.cons rfl (fun K hK => ?_) (AllReadyH.cons rfl (fun K hK => ?_) AllReadyH.nil)
    · skip
      go_simp
      go_at_call 29; refine (toRelease_c _ _ _ hn _ (Ints.step hbel HI1)).mono ?_; rintro e w101 ⟨g101, rfl, hg101, hB101, hb101⟩
      go_wp2_with fail
      refine hK.out _ _ (⟨Blk.step hb101 hHeld.1, Blk.step hb101 hHeld.2⟩) (fun hHeld => ?_)
      clear hK K
      try simp only [Act.put, List.setIfInBounds_toArray, List.set_cons_zero, List.set_cons_succ]
      replace hbel := Bel.step hb101 hbel
      replace hsz : w1.heap.size ≤ w101.heap.size := Nat.le_trans hsz hb101.size
      have HJ := hB101.ints
      generalize g101 = G at HJ hg101 ⊢
      clear hB101 hg101
      clear hb101
      refine wpAnyH_ready (rs := [3, 8]) (by kernel_rfl) (by simp) ?_
      refine AllReadyH.cons rfl (fun K hK => ?_) (AllReadyH.cons rfl (fun K hK => ?_) AllReadyH.nil)
      · skip
        go_simp
        go_at_call 30; refine (toFigure_c hd ht _).mono ?_; rintro e w102 ⟨rfl, hb102⟩
        go_wp2_with fail
        refine hK.out _ _ (⟨Blk.step hb102 hHeld.1, Blk.step hb102 hHeld.2⟩) (fun hHeld => ?_)
        clear hK K
        try simp only [Act.put, List.setIfInBounds_toArray, List.set_cons_zero, List.set_cons_succ]
        replace hbel := Bel.step hb102 hbel
        replace hsz : w1.heap.size ≤ w102.heap.size := Nat.le_trans hsz hb102.size
        replace HJ := Ints.step hb102 HJ
        clear hb102
        refine wpAnyH_ready (rs := [4, 8]) (by kernel_rfl) (by simp) ?_
        refine AllReadyH.cons rfl (fun K hK => ?_) (AllReadyH.cons rfl (fun K hK => ?_) AllReadyH.nil)
        · skip
          go_simp
          go_at_call 28; refine (WidestRange_S _ _ _ _ _ hn hm _ HJ).mono ?_; rintro e w103 ⟨A3, kk3, rfl, hO103, hb103⟩
          go_wp2_with fail
          refine hK.out _ _ (⟨Blk.step hb103 hHeld.1, Blk.step hb103 hHeld.2⟩) (fun hHeld => ?_)
          clear hK K
          try simp only [Act.put, List.setIfInBounds_toArray, List.set_cons_zero, List.set_cons_succ]
          have HO := Own.ge_mono hO103 hsz
          clear hO103
          replace hbel := Bel.step hb103 hbel
          replace hsz : w1.heap.size ≤ w103.heap.size := Nat.le_trans hsz hb103.size
          clear HJ
          clear hb103
          refine wpAnyH_take (i := 5) (v := (.tuple #[.agg #[.int .i64 (wrV R hd ht).ch.dg, .int .i64 (wrV R hd ht).ch.tn, .string (wrV R hd ht).ch.nm, .slice A3 (wrV R hd ht).ch.zs.length kk3, .int .i64 (wrV R hd ht).ch.wd, .int .i64 (wrV R hd ht).ch.lf, .int .i64 (wrV R hd ht).ch.rt, .int .i64 (wrV R hd ht).ad, .int .i64 (wrV R hd ht).at_, .int .i64 (wrV R hd ht).bd, .int .i64 (wrV R hd ht).bt, .int .i64 (wrV R hd ht).cd, .int .i64 (wrV R hd ht).ct, .int .i64 (wrV R hd ht).dd, .int .i64 (wrV R hd ht).dt, .int .i64 (wrV R hd ht).ey, .int .i64 (wrV R hd ht).bo], .int .i64 (wrC R hd ht)])) rfl (by kernel_rfl) (by kernel_rfl) (by kernel_rfl) (fun _ _ _ h => h) (Or.inl ⟨by rfl, fun w _ => by simp [go_sem, execOp]⟩) hHeld ?_
          try simp only [Act.put, List.setIfInBounds_toArray, List.set_cons_zero, List.set_cons_succ]
          refine wpAnyH_take (i := 6) (v := (.agg #[.int .i64 (wrV R hd ht).ch.dg, .int .i64 (wrV R hd ht).ch.tn, .string (wrV R hd ht).ch.nm, .slice A3 (wrV R hd ht).ch.zs.length kk3, .int .i64 (wrV R hd ht).ch.wd, .int .i64 (wrV R hd ht).ch.lf, .int .i64 (wrV R hd ht).ch.rt, .int .i64 (wrV R hd ht).ad, .int .i64 (wrV R hd ht).at_, .int .i64 (wrV R hd ht).bd, .int .i64 (wrV R hd ht).bt, .int .i64 (wrV R hd ht).cd, .int .i64 (wrV R hd ht).ct, .int .i64 (wrV R hd ht).dd, .int .i64 (wrV R hd ht).dt, .int .i64 (wrV R hd ht).ey, .int .i64 (wrV R hd ht).bo])) rfl (by kernel_rfl) (by kernel_rfl) (by kernel_rfl) (fun _ _ _ h => h) (Or.inl ⟨by rfl, fun w _ => by simp [go_sem, execOp]⟩) hHeld ?_
          try simp only [Act.put, List.setIfInBounds_toArray, List.set_cons_zero, List.set_cons_succ]
          refine wpAnyH_take (i := 7) (v := (.int .i64 (wrC R hd ht))) rfl (by kernel_rfl) (by kernel_rfl) (by kernel_rfl) (fun _ _ _ h => h) (Or.inl ⟨by rfl, fun w _ => by simp [go_sem, execOp]⟩) hHeld ?_
          try simp only [Act.put, List.setIfInBounds_toArray, List.set_cons_zero, List.set_cons_succ]
          refine wpAnyH_ready (rs := [8]) (by kernel_rfl) (by simp) ?_
          refine AllReadyH.cons rfl (fun K hK => ?_) AllReadyH.nil
          · skip
            go_simp
            refine hK.out _ _ (⟨Blk.alloc _ hHeld.1, Blk.alloc _ hHeld.2⟩) (fun hHeld => ?_)
            clear hK K
            try simp only [Act.put, List.setIfInBounds_toArray, List.set_cons_zero, List.set_cons_succ]
            have HA := Blk.new w103 55 #[.int .i64 0, .int .i64 0, .string ⟨#[]⟩, .slice none 0 0, .int .i64 0, .int .i64 0, .int .i64 0, .int .i64 0, .int .i64 0, .int .i64 0, .int .i64 0, .int .i64 0, .int .i64 0, .int .i64 0, .int .i64 0, .int .i64 0, .int .i64 0]
            have hlo : w1.heap.size ≤ w103.heap.size := hsz
            replace hbel : Below w1.heap.size w1 (w103.alloc (.cells #[.int .i64 0, .int .i64 0, .string ⟨#[]⟩, .slice none 0 0, .int .i64 0, .int .i64 0, .int .i64 0, .int .i64 0, .int .i64 0, .int .i64 0, .int .i64 0, .int .i64 0, .int .i64 0, .int .i64 0, .int .i64 0, .int .i64 0, .int .i64 0] 55)) := Bel.alloc hbel _
            replace hsz : w1.heap.size ≤ (w103.alloc (.cells #[.int .i64 0, .int .i64 0, .string ⟨#[]⟩, .slice none 0 0, .int .i64 0, .int .i64 0, .int .i64 0, .int .i64 0, .int .i64 0, .int .i64 0, .int .i64 0, .int .i64 0, .int .i64 0, .int .i64 0, .int .i64 0, .int .i64 0, .int .i64 0] 55)).heap.size := by simp only [World.size_alloc]; omega
            have hox : (Value.slice A3 (wrV R hd ht).ch.zs.length kk3).ownBlock ≠ some w103.heap.size := own_btw HO (Or.inr (Nat.le_refl _))
            replace HO := Own.alloc (.cells #[.int .i64 0, .int .i64 0, .string ⟨#[]⟩, .slice none 0 0, .int .i64 0, .int .i64 0, .int .i64 0, .int .i64 0, .int .i64 0, .int .i64 0, .int .i64 0, .int .i64 0, .int .i64 0, .int .i64 0, .int .i64 0, .int .i64 0, .int .i64 0] 55) HO
            generalize (w103.alloc (.cells #[.int .i64 0, .int .i64 0, .string ⟨#[]⟩, .slice none 0 0, .int .i64 0, .int .i64 0, .int .i64 0, .int .i64 0, .int .i64 0, .int .i64 0, .int .i64 0, .int .i64 0, .int .i64 0, .int .i64 0, .int .i64 0, .int .i64 0, .int .i64 0] 55)) = w104 at hHeld hbel hsz HA hlo HO ⊢
            generalize w103.heap.size = a at HA hlo hox ⊢
            have hall := And.intro hHeld (And.intro hbel (And.intro HA (And.intro hlo (And.intro HO hox))))
            clear hsz hHeld hbel HA hlo HO hox
            revert hall
            revert w104 a G A3 kk3
            exact key.out
        · skip
          go_simp
          refine hK.out _ _ (⟨Blk.alloc _ hHeld.1, Blk.alloc _ hHeld.2⟩) (fun hHeld => ?_)
          clear hK K
          try simp only [Act.put, List.setIfInBounds_toArray, List.set_cons_zero, List.set_cons_succ]
          have HA := Blk.new w102 55 #[.int .i64 0, .int .i64 0, .string ⟨#[]⟩, .slice none 0 0, .int .i64 0, .int .i64 0, .int .i64 0, .int .i64 0, .int .i64 0, .int .i64 0, .int .i64 0, .int .i64 0, .int .i64 0, .int .i64 0, .int .i64 0, .int .i64 0, .int .i64 0]
          have hlo : w1.heap.size ≤ w102.heap.size := hsz
          replace hbel : Below w1.heap.size w1 (w102.alloc (.cells #[.int .i64 0, .int .i64 0, .string ⟨#[]⟩, .slice none 0 0, .int .i64 0, .int .i64 0, .int .i64 0, .int .i64 0, .int .i64 0, .int .i64 0, .int .i64 0, .int .i64 0, .int .i64 0, .int .i64 0, .int .i64 0, .int .i64 0, .int .i64 0] 55)) := Bel.alloc hbel _
          replace hsz : w1.heap.size ≤ (w102.alloc (.cells #[.int .i64 0, .int .i64 0, .string ⟨#[]⟩, .slice none 0 0, .int .i64 0, .int .i64 0, .int .i64 0, .int .i64 0, .int .i64 0, .int .i64 0, .int .i64 0, .int .i64 0, .int .i64 0, .int .i64 0, .int .i64 0, .int .i64 0, .int .i64 0] 55)).heap.size := by simp only [World.size_alloc]; omega
          replace HJ := Ints.alloc (.cells #[.int .i64 0, .int .i64 0, .string ⟨#[]⟩, .slice none 0 0, .int .i64 0, .int .i64 0, .int .i64 0, .int .i64 0, .int .i64 0, .int .i64 0, .int .i64 0, .int .i64 0, .int .i64 0, .int .i64 0, .int .i64 0, .int .i64 0, .int .i64 0] 55) HJ
          generalize (w102.alloc (.cells #[.int .i64 0, .int .i64 0, .string ⟨#[]⟩, .slice none 0 0, .int .i64 0, .int .i64 0, .int .i64 0, .int .i64 0, .int .i64 0, .int .i64 0, .int .i64 0, .int .i64 0, .int .i64 0, .int .i64 0, .int .i64 0, .int .i64 0, .int .i64 0] 55)) = w105 at hHeld hbel hsz HA hlo HJ ⊢
          generalize w102.heap.size = a at HA hlo ⊢
          refine wpAnyH_ready (rs := [4]) (by kernel_rfl) (by simp) ?_
          refine AllReadyH.cons rfl (fun K hK => ?_) AllReadyH.nil
          · skip
            have hlt := HA.lt
            go_simp
            go_at_call 28; refine (WidestRange_S _ _ _ _ _ hn hm _ HJ).mono ?_; rintro e w106 ⟨A3, kk3, rfl, hO106, hb106⟩
            go_wp2_with fail
            refine hK.out _ _ (⟨Blk.step hb106 hHeld.1, Blk.step hb106 hHeld.2⟩) (fun hHeld => ?_)
            clear hK K
            try simp only [Act.put, List.setIfInBounds_toArray, List.set_cons_zero, List.set_cons_succ]
            have HO := Own.ge_mono hO106 hsz
            have hox : (Value.slice A3 (wrV R hd ht).ch.zs.length kk3).ownBlock ≠ some a := own_btw hO106 (Or.inl hlt)
            clear hO106
            replace hbel := Bel.step hb106 hbel
            replace hsz : w1.heap.size ≤ w106.heap.size := Nat.le_trans hsz hb106.size
            replace HA := Blk.step hb106 HA
            clear hlt
            clear HJ
            clear hb106
            refine wpAnyH_take (i := 5) (v := (.tuple #[.agg #[.int .i64 (wrV R hd ht).ch.dg, .int .i64 (wrV R hd ht).ch.tn, .string (wrV R hd ht).ch.nm, .slice A3 (wrV R hd ht).ch.zs.length kk3, .int .i64 (wrV R hd ht).ch.wd, .int .i64 (wrV R hd ht).ch.lf, .int .i64 (wrV R hd ht).ch.rt, .int .i64 (wrV R hd ht).ad, .int .i64 (wrV R hd ht).at_, .int .i64 (wrV R hd ht).bd, .int .i64 (wrV R hd ht).bt, .int .i64 (wrV R hd ht).cd, .int .i64 (wrV R hd ht).ct, .int .i64 (wrV R hd ht).dd, .int .i64 (wrV R hd ht).dt, .int .i64 (wrV R hd ht).ey, .int .i64 (wrV R hd ht).bo], .int .i64 (wrC R hd ht)])) rfl (by kernel_rfl) (by kernel_rfl) (by kernel_rfl) (fun _ _ _ h => h) (Or.inl ⟨by rfl, fun w _ => by simp [go_sem, execOp]⟩) hHeld ?_
            try simp only [Act.put, List.setIfInBounds_toArray, List.set_cons_zero, List.set_cons_succ]
            refine wpAnyH_take (i := 6) (v := (.agg #[.int .i64 (wrV R hd ht).ch.dg, .int .i64 (wrV R hd ht).ch.tn, .string (wrV R hd ht).ch.nm, .slice A3 (wrV R hd ht).ch.zs.length kk3, .int .i64 (wrV R hd ht).ch.wd, .int .i64 (wrV R hd ht).ch.lf, .int .i64 (wrV R hd ht).ch.rt, .int .i64 (wrV R hd ht).ad, .int .i64 (wrV R hd ht).at_, .int .i64 (wrV R hd ht).bd, .int .i64 (wrV R hd ht).bt, .int .i64 (wrV R hd ht).cd, .int .i64 (wrV R hd ht).ct, .int .i64 (wrV R hd ht).dd, .int .i64 (wrV R hd ht).dt, .int .i64 (wrV R hd ht).ey, .int .i64 (wrV R hd ht).bo])) rfl (by kernel_rfl) (by kernel_rfl) (by kernel_rfl) (fun _ _ _ h => h) (Or.inl ⟨by rfl, fun w _ => by simp [go_sem, execOp]⟩) hHeld ?_
            try simp only [Act.put, List.setIfInBounds_toArray, List.set_cons_zero, List.set_cons_succ]
            refine wpAnyH_take (i := 7) (v := (.int .i64 (wrC R hd ht))) rfl (by kernel_rfl) (by kernel_rfl) (by kernel_rfl) (fun _ _ _ h => h) (Or.inl ⟨by rfl, fun w _ => by simp [go_sem, execOp]⟩) hHeld ?_
            try simp only [Act.put, List.setIfInBounds_toArray, List.set_cons_zero, List.set_cons_succ]
            exact key.out _ _ _ _ _ (And.intro hHeld (And.intro hbel (And.intro HA (And.intro hlo (And.intro HO hox)))))
      · skip
        go_simp
        refine hK.out _ _ (⟨Blk.alloc _ hHeld.1, Blk.alloc _ hHeld.2⟩) (fun hHeld => ?_)
        clear hK K
        try simp only [Act.put, List.setIfInBounds_toArray, List.set_cons_zero, List.set_cons_succ]
        have HA := Blk.new w101 55 #[.int .i64 0, .int .i64 0, .string ⟨#[]⟩, .slice none 0 0, .int .i64 0, .int .i64 0, .int .i64 0, .int .i64 0, .int .i64 0, .int .i64 0, .int .i64 0, .int .i64 0, .int .i64 0, .int .i64 0, .int .i64 0, .int .i64 0, .int .i64 0]
        have hlo : w1.heap.size ≤ w101.heap.size := hsz
        replace hbel : Below w1.heap.size w1 (w101.alloc (.cells #[.int .i64 0, .int .i64 0, .string ⟨#[]⟩, .slice none 0 0, .int .i64 0, .int .i64 0, .int .i64 0, .int .i64 0, .int .i64 0, .int .i64 0, .int .i64 0, .int .i64 0, .int .i64 0, .int .i64 0, .int .i64 0, .int .i64 0, .int .i64 0] 55)) := Bel.alloc hbel _
        replace hsz : w1.heap.size ≤ (w101.alloc (.cells #[.int .i64 0, .int .i64 0, .string ⟨#[]⟩, .slice none 0 0, .int .i64 0, .int .i64 0, .int .i64 0, .int .i64 0, .int .i64 0, .int .i64 0, .int .i64 0, .int .i64 0, .int .i64 0, .int .i64 0, .int .i64 0, .int .i64 0, .int .i64 0] 55)).heap.size := by simp only [World.size_alloc]; omega
        replace HJ := Ints.alloc (.cells #[.int .i64 0, .int .i64 0, .string ⟨#[]⟩, .slice none 0 0, .int .i64 0, .int .i64 0, .int .i64 0, .int .i64 0, .int .i64 0, .int .i64 0, .int .i64 0, .int .i64 0, .int .i64 0, .int .i64 0, .int .i64 0, .int .i64 0, .int .i64 0] 55) HJ
        generalize (w101.alloc (.cells #[.int .i64 0, .int .i64 0, .string ⟨#[]⟩, .slice none 0 0, .int .i64 0, .int .i64 0, .int .i64 0, .int .i64 0, .int .i64 0, .int .i64 0, .int .i64 0, .int .i64 0, .int .i64 0, .int .i64 0, .int .i64 0, .int .i64 0, .int .i64 0] 55)) = w107 at hHeld hbel hsz HA hlo HJ ⊢
        generalize w101.heap.size = a at HA hlo ⊢
        refine wpAnyH_ready (rs := [3]) (by kernel_rfl) (by simp) ?_
        refine AllReadyH.cons rfl (fun K hK => ?_) AllReadyH.nil
        · skip
          have hlt := HA.lt
          go_simp
          go_at_call 30; refine (toFigure_c hd ht _).mono ?_; rintro e w108 ⟨rfl, hb108⟩
          go_wp2_with fail
          refine hK.out _ _ (⟨Blk.step hb108 hHeld.1, Blk.step hb108 hHeld.2⟩) (fun hHeld => ?_)
          clear hK K
          try simp only [Act.put, List.setIfInBounds_toArray, List.set_cons_zero, List.set_cons_succ]
          replace hbel := Bel.step hb108 hbel
          replace hsz : w1.heap.size ≤ w108.heap.size := Nat.le_trans hsz hb108.size
          replace HA := Blk.step hb108 HA
          clear hlt
          replace HJ := Ints.step hb108 HJ
          clear hb108
          refine wpAnyH_ready (rs := [4]) (by kernel_rfl) (by simp) ?_
          refine AllReadyH.cons rfl (fun K hK => ?_) AllReadyH.nil
          · skip
            have hlt := HA.lt
            go_simp
            go_at_call 28; refine (WidestRange_S _ _ _ _ _ hn hm _ HJ).mono ?_; rintro e w109 ⟨A3, kk3, rfl, hO109, hb109⟩
            go_wp2_with fail
            refine hK.out _ _ (⟨Blk.step hb109 hHeld.1, Blk.step hb109 hHeld.2⟩) (fun hHeld => ?_)
            clear hK K
            try simp only [Act.put, List.setIfInBounds_toArray, List.set_cons_zero, List.set_cons_succ]
            have HO := Own.ge_mono hO109 hsz
            have hox : (Value.slice A3 (wrV R hd ht).ch.zs.length kk3).ownBlock ≠ some a := own_btw hO109 (Or.inl hlt)
            clear hO109
            replace hbel := Bel.step hb109 hbel
            replace hsz : w1.heap.size ≤ w109.heap.size := Nat.le_trans hsz hb109.size
            replace HA := Blk.step hb109 HA
            clear hlt
            clear HJ
            clear hb109
            refine wpAnyH_take (i := 5) (v := (.tuple #[.agg #[.int .i64 (wrV R hd ht).ch.dg, .int .i64 (wrV R hd ht).ch.tn, .string (wrV R hd ht).ch.nm, .slice A3 (wrV R hd ht).ch.zs.length kk3, .int .i64 (wrV R hd ht).ch.wd, .int .i64 (wrV R hd ht).ch.lf, .int .i64 (wrV R hd ht).ch.rt, .int .i64 (wrV R hd ht).ad, .int .i64 (wrV R hd ht).at_, .int .i64 (wrV R hd ht).bd, .int .i64 (wrV R hd ht).bt, .int .i64 (wrV R hd ht).cd, .int .i64 (wrV R hd ht).ct, .int .i64 (wrV R hd ht).dd, .int .i64 (wrV R hd ht).dt, .int .i64 (wrV R hd ht).ey, .int .i64 (wrV R hd ht).bo], .int .i64 (wrC R hd ht)])) rfl (by kernel_rfl) (by kernel_rfl) (by kernel_rfl) (fun _ _ _ h => h) (Or.inl ⟨by rfl, fun w _ => by simp [go_sem, execOp]⟩) hHeld ?_
            try simp only [Act.put, List.setIfInBounds_toArray, List.set_cons_zero, List.set_cons_succ]
            refine wpAnyH_take (i := 6) (v := (.agg #[.int .i64 (wrV R hd ht).ch.dg, .int .i64 (wrV R hd ht).ch.tn, .string (wrV R hd ht).ch.nm, .slice A3 (wrV R hd ht).ch.zs.length kk3, .int .i64 (wrV R hd ht).ch.wd, .int .i64 (wrV R hd ht).ch.lf, .int .i64 (wrV R hd ht).ch.rt, .int .i64 (wrV R hd ht).ad, .int .i64 (wrV R hd ht).at_, .int .i64 (wrV R hd ht).bd, .int .i64 (wrV R hd ht).bt, .int .i64 (wrV R hd ht).cd, .int .i64 (wrV R hd ht).ct, .int .i64 (wrV R hd ht).dd, .int .i64 (wrV R hd ht).dt, .int .i64 (wrV R hd ht).ey, .int .i64 (wrV R hd ht).bo])) rfl (by kernel_rfl) (by kernel_rfl) (by kernel_rfl) (fun _ _ _ h => h) (Or.inl ⟨by rfl, fun w _ => by simp [go_sem, execOp]⟩) hHeld ?_
            try simp only [Act.put, List.setIfInBounds_toArray, List.set_cons_zero, List.set_cons_succ]
            refine wpAnyH_take (i := 7) (v := (.int .i64 (wrC R hd ht))) rfl (by kernel_rfl) (by kernel_rfl) (by kernel_rfl) (fun _ _ _ h => h) (Or.inl ⟨by rfl, fun w _ => by simp [go_sem, execOp]⟩) hHeld ?_
            try simp only [Act.put, List.setIfInBounds_toArray, List.set_cons_zero, List.set_cons_succ]
            exact key.out _ _ _ _ _ (And.intro hHeld (And.intro hbel (And.intro HA (And.intro hlo (And.intro HO hox)))))
    · skip
      go_simp
      refine hK.out _ _ (⟨Blk.alloc _ hHeld.1, Blk.alloc _ hHeld.2⟩) (fun hHeld => ?_)
      clear hK K
      try simp only [Act.put, List.setIfInBounds_toArray, List.set_cons_zero, List.set_cons_succ]
      have HA := Blk.new wA 55 #[.int .i64 0, .int .i64 0, .string ⟨#[]⟩, .slice none 0 0, .int .i64 0, .int .i64 0, .int .i64 0, .int .i64 0, .int .i64 0, .int .i64 0, .int .i64 0, .int .i64 0, .int .i64 0, .int .i64 0, .int .i64 0, .int .i64 0, .int .i64 0]
      have hlo : w1.heap.size ≤ wA.heap.size := hsz
      replace hbel : Below w1.heap.size w1 (wA.alloc (.cells #[.int .i64 0, .int .i64 0, .string ⟨#[]⟩, .slice none 0 0, .int .i64 0, .int .i64 0, .int .i64 0, .int .i64 0, .int .i64 0, .int .i64 0, .int .i64 0, .int .i64 0, .int .i64 0, .int .i64 0, .int .i64 0, .int .i64 0, .int .i64 0] 55)) := Bel.alloc hbel _
      replace hsz : w1.heap.size ≤ (wA.alloc (.cells #[.int .i64 0, .int .i64 0, .string ⟨#[]⟩, .slice none 0 0, .int .i64 0, .int .i64 0, .int .i64 0, .int .i64 0, .int .i64 0, .int .i64 0, .int .i64 0, .int .i64 0, .int .i64 0, .int .i64 0, .int .i64 0, .int .i64 0, .int .i64 0] 55)).heap.size := by simp only [World.size_alloc]; omega
      generalize (wA.alloc (.cells #[.int .i64 0, .int .i64 0, .string ⟨#[]⟩, .slice none 0 0, .int .i64 0, .int .i64 0, .int .i64 0, .int .i64 0, .int .i64 0, .int .i64 0, .int .i64 0, .int .i64 0, .int .i64 0, .int .i64 0, .int .i64 0, .int .i64 0, .int .i64 0] 55)) = w110 at hHeld hbel hsz HA hlo ⊢
      generalize wA.heap.size = a at HA hlo ⊢
      refine wpAnyH_ready (rs := [1]) (by kernel_rfl) (by simp) ?_
      refine AllReadyH.cons rfl (fun K hK => ?_) AllReadyH.nil
      · skip
        have hlt := HA.lt
        go_simp
        go_at_call 29; refine (toRelease_c _ _ _ hn _ (Ints.step hbel HI1)).mono ?_; rintro e w111 ⟨g111, rfl, hg111, hB111, hb111⟩
        go_wp2_with fail
        refine hK.out _ _ (⟨Blk.step hb111 hHeld.1, Blk.step hb111 hHeld.2⟩) (fun hHeld => ?_)
        clear hK K
        try simp only [Act.put, List.setIfInBounds_toArray, List.set_cons_zero, List.set_cons_succ]
        replace hbel := Bel.step hb111 hbel
        replace hsz : w1.heap.size ≤ w111.heap.size := Nat.le_trans hsz hb111.size
        replace HA := Blk.step hb111 HA
        clear hlt
        have HJ := hB111.ints
        generalize g111 = G at HJ hg111 ⊢
        clear hB111 hg111
        clear hb111
        refine wpAnyH_ready (rs := [3]) (by kernel_rfl) (by simp) ?_
        refine AllReadyH.cons rfl (fun K hK => ?_) AllReadyH.nil
        · skip
          have hlt := HA.lt
          go_simp
          go_at_call 30; refine (toFigure_c hd ht _).mono ?_; rintro e w112 ⟨rfl, hb112⟩
          go_wp2_with fail
          refine hK.out _ _ (⟨Blk.step hb112 hHeld.1, Blk.step hb112 hHeld.2⟩) (fun hHeld => ?_)
          clear hK K
          try simp only [Act.put, List.setIfInBounds_toArray, List.set_cons_zero, List.set_cons_succ]
          replace hbel := Bel.step hb112 hbel
          replace hsz : w1.heap.size ≤ w112.heap.size := Nat.le_trans hsz hb112.size
          replace HA := Blk.step hb112 HA
          clear hlt
          replace HJ := Ints.step hb112 HJ
          clear hb112
          refine wpAnyH_ready (rs := [4]) (by kernel_rfl) (by simp) ?_
          refine AllReadyH.cons rfl (fun K hK => ?_) AllReadyH.nil
          · skip
            have hlt := HA.lt
            go_simp
            go_at_call 28; refine (WidestRange_S _ _ _ _ _ hn hm _ HJ).mono ?_; rintro e w113 ⟨A3, kk3, rfl, hO113, hb113⟩
            go_wp2_with fail
            refine hK.out _ _ (⟨Blk.step hb113 hHeld.1, Blk.step hb113 hHeld.2⟩) (fun hHeld => ?_)
            clear hK K
            try simp only [Act.put, List.setIfInBounds_toArray, List.set_cons_zero, List.set_cons_succ]
            have HO := Own.ge_mono hO113 hsz
            have hox : (Value.slice A3 (wrV R hd ht).ch.zs.length kk3).ownBlock ≠ some a := own_btw hO113 (Or.inl hlt)
            clear hO113
            replace hbel := Bel.step hb113 hbel
            replace hsz : w1.heap.size ≤ w113.heap.size := Nat.le_trans hsz hb113.size
            replace HA := Blk.step hb113 HA
            clear hlt
            clear HJ
            clear hb113
            refine wpAnyH_take (i := 5) (v := (.tuple #[.agg #[.int .i64 (wrV R hd ht).ch.dg, .int .i64 (wrV R hd ht).ch.tn, .string (wrV R hd ht).ch.nm, .slice A3 (wrV R hd ht).ch.zs.length kk3, .int .i64 (wrV R hd ht).ch.wd, .int .i64 (wrV R hd ht).ch.lf, .int .i64 (wrV R hd ht).ch.rt, .int .i64 (wrV R hd ht).ad, .int .i64 (wrV R hd ht).at_, .int .i64 (wrV R hd ht).bd, .int .i64 (wrV R hd ht).bt, .int .i64 (wrV R hd ht).cd, .int .i64 (wrV R hd ht).ct, .int .i64 (wrV R hd ht).dd, .int .i64 (wrV R hd ht).dt, .int .i64 (wrV R hd ht).ey, .int .i64 (wrV R hd ht).bo], .int .i64 (wrC R hd ht)])) rfl (by kernel_rfl) (by kernel_rfl) (by kernel_rfl) (fun _ _ _ h => h) (Or.inl ⟨by rfl, fun w _ => by simp [go_sem, execOp]⟩) hHeld ?_
            try simp only [Act.put, List.setIfInBounds_toArray, List.set_cons_zero, List.set_cons_succ]
            refine wpAnyH_take (i := 6) (v := (.agg #[.int .i64 (wrV R hd ht).ch.dg, .int .i64 (wrV R hd ht).ch.tn, .string (wrV R hd ht).ch.nm, .slice A3 (wrV R hd ht).ch.zs.length kk3, .int .i64 (wrV R hd ht).ch.wd, .int .i64 (wrV R hd ht).ch.lf, .int .i64 (wrV R hd ht).ch.rt, .int .i64 (wrV R hd ht).ad, .int .i64 (wrV R hd ht).at_, .int .i64 (wrV R hd ht).bd, .int .i64 (wrV R hd ht).bt, .int .i64 (wrV R hd ht).cd, .int .i64 (wrV R hd ht).ct, .int .i64 (wrV R hd ht).dd, .int .i64 (wrV R hd ht).dt, .int .i64 (wrV R hd ht).ey, .int .i64 (wrV R hd ht).bo])) rfl (by kernel_rfl) (by kernel_rfl) (by kernel_rfl) (fun _ _ _ h => h) (Or.inl ⟨by rfl, fun w _ => by simp [go_sem, execOp]⟩) hHeld ?_
            try simp only [Act.put, List.setIfInBounds_toArray, List.set_cons_zero, List.set_cons_succ]
            refine wpAnyH_take (i := 7) (v := (.int .i64 (wrC R hd ht))) rfl (by kernel_rfl) (by kernel_rfl) (by kernel_rfl) (fun _ _ _ h => h) (Or.inl ⟨by rfl, fun w _ => by simp [go_sem, execOp]⟩) hHeld ?_
            try simp only [Act.put, List.setIfInBounds_toArray, List.set_cons_zero, List.set_cons_succ]
            exact key.out _ _ _ _ _ (And.intro hHeld (And.intro hbel (And.intro HA (And.intro hlo (And.intro HO hox)))))
  intro G A3 kk3 W x ⟨hHeld, hbel, HX, hlo, HO, hox⟩
  refine wpAnyH_ready (rs := [9]) (by kernel_rfl) (by simp) ?_
  refine AllReadyH.cons rfl (fun K hK => ?_) AllReadyH.nil
  refine step_store_blk (cs := #[.int .i64 (wrV R hd ht).ch.dg, .int .i64 (wrV R hd ht).ch.tn, .string (wrV R hd ht).ch.nm, .slice A3 (wrV R hd ht).ch.zs.length kk3, .int .i64 (wrV R hd ht).ch.wd, .int .i64 (wrV R hd ht).ch.lf, .int .i64 (wrV R hd ht).ch.rt, .int .i64 (wrV R hd ht).ad, .int .i64 (wrV R hd ht).at_, .int .i64 (wrV R hd ht).bd, .int .i64 (wrV R hd ht).bt, .int .i64 (wrV R hd ht).cd, .int .i64 (wrV R hd ht).ct, .int .i64 (wrV R hd ht).dd, .int .i64 (wrV R hd ht).dt, .int .i64 (wrV R hd ht).ey, .int .i64 (wrV R hd ht).bo]) 55 _ _ x HX (by kernel_rfl) rfl (by simp [Value.oneCell']) rfl rfl rfl rfl rfl ?_
  refine hK.out _ _ ⟨Blk.setRow_far _ (by omega) hHeld.1, Blk.setRow_far _ (by omega) hHeld.2⟩ (fun hHeld => ?_)
  clear hK K
  try simp only [Act.put, List.setIfInBounds_toArray, List.set_cons_zero, List.set_cons_succ]
  replace HX := Blk.setRow #[.int .i64 (wrV R hd ht).ch.dg, .int .i64 (wrV R hd ht).ch.tn, .string (wrV R hd ht).ch.nm, .slice A3 (wrV R hd ht).ch.zs.length kk3, .int .i64 (wrV R hd ht).ch.wd, .int .i64 (wrV R hd ht).ch.lf, .int .i64 (wrV R hd ht).ch.rt, .int .i64 (wrV R hd ht).ad, .int .i64 (wrV R hd ht).at_, .int .i64 (wrV R hd ht).bd, .int .i64 (wrV R hd ht).bt, .int .i64 (wrV R hd ht).cd, .int .i64 (wrV R hd ht).ct, .int .i64 (wrV R hd ht).dd, .int .i64 (wrV R hd ht).dt, .int .i64 (wrV R hd ht).ey, .int .i64 (wrV R hd ht).bo] HX
  replace HO := Own.kept HO (grown_setRow W x #[.int .i64 (wrV R hd ht).ch.dg, .int .i64 (wrV R hd ht).ch.tn, .string (wrV R hd ht).ch.nm, .slice A3 (wrV R hd ht).ch.zs.length kk3, .int .i64 (wrV R hd ht).ch.wd, .int .i64 (wrV R hd ht).ch.lf, .int .i64 (wrV R hd ht).ch.rt, .int .i64 (wrV R hd ht).ad, .int .i64 (wrV R hd ht).at_, .int .i64 (wrV R hd ht).bd, .int .i64 (wrV R hd ht).bt, .int .i64 (wrV R hd ht).cd, .int .i64 (wrV R hd ht).ct, .int .i64 (wrV R hd ht).dd, .int .i64 (wrV R hd ht).dt, .int .i64 (wrV R hd ht).ey, .int .i64 (wrV R hd ht).bo]) (.inr hox)
  replace hbel := Bel.setRow hbel hlo #[.int .i64 (wrV R hd ht).ch.dg, .int .i64 (wrV R hd ht).ch.tn, .string (wrV R hd ht).ch.nm, .slice A3 (wrV R hd ht).ch.zs.length kk3, .int .i64 (wrV R hd ht).ch.wd, .int .i64 (wrV R hd ht).ch.lf, .int .i64 (wrV R hd ht).ch.rt, .int .i64 (wrV R hd ht).ad, .int .i64 (wrV R hd ht).at_, .int .i64 (wrV R hd ht).bd, .int .i64 (wrV R hd ht).bt, .int .i64 (wrV R hd ht).cd, .int .i64 (wrV R hd ht).ct, .int .i64 (wrV R hd ht).dd, .int .i64 (wrV R hd ht).dt, .int .i64 (wrV R hd ht).ey, .int .i64 (wrV R hd ht).bo]
  generalize W.setRow x #[.int .i64 (wrV R hd ht).ch.dg, .int .i64 (wrV R hd ht).ch.tn, .string (wrV R hd ht).ch.nm, .slice A3 (wrV R hd ht).ch.zs.length kk3, .int .i64 (wrV R hd ht).ch.wd, .int .i64 (wrV R hd ht).ch.lf, .int .i64 (wrV R hd ht).ch.rt, .int .i64 (wrV R hd ht).ad, .int .i64 (wrV R hd ht).at_, .int .i64 (wrV R hd ht).bd, .int .i64 (wrV R hd ht).bt, .int .i64 (wrV R hd ht).cd, .int .i64 (wrV R hd ht).ct, .int .i64 (wrV R hd ht).dd, .int .i64 (wrV R hd ht).dt, .int .i64 (wrV R hd ht).ey, .int .i64 (wrV R hd ht).bo] = W at hHeld hbel HX HO ⊢
  refine wpAnyH_take (i := 10) (v := (.int .i64 (wrC R hd ht))) rfl (by kernel_rfl) (by kernel_rfl) (by kernel_rfl) (fun _ _ _ h => h) (Or.inl ⟨by rfl, fun w _ => by simp [go_sem, execOp]⟩) hHeld ?_
  simp only [Act.put, List.getElem_toArray, List.getElem_cons_succ, List.getElem_cons_zero, List.setIfInBounds_toArray, List.set_cons_zero, List.set_cons_succ]
  refine wpAnyH_done (by kernel_rfl) ?_ _
  clear hHeld
  have HB5 := Blk.step hbel HB1
  have HF5 := Blk.step hbel HF1
  have hbel5 := Bel.step hbel hbel1
  have HI5 := Ints.step hbel HI1
  have HO5 := HO
  have HX5 := HX
  have lx5 := HX.lt
  have lo5 := hlo
  clear hbel HO HX hox hlo HB1 HF1 HI1 hbel1
  generalize w1.heap.size = B3 at s1 HO5 lo5
  go_wp2_with (refine wpList_load_blkG 52 _ _ HB5 Try.underlying52 (by kernel_rfl) rfl rfl (by rfl) ?_)
  go_at_call 29; refine (toRelease_c R A c hn _ HI5).mono ?_; rintro e w6 ⟨g4, rfl, hg4, hB6, hb6⟩
  go_upto_region 7 with (refine wpList_store_blk (cs := #[.int .i64 R.ch.dg, .int .i64 R.ch.tn, .string R.ch.nm, .slice (some ⟨g4, 0, none⟩) R.ch.zs.length R.ch.zs.length, .int .i64 R.ch.wd, .int .i64 R.ch.lf, .int .i64 R.ch.rt, .int .i64 R.ad, .int .i64 R.at_, .int .i64 R.bd, .int .i64 R.bt, .int .i64 R.cd, .int .i64 R.ct, .int .i64 R.dd, .int .i64 R.dt, .int .i64 R.ey, .int .i64 R.bo]) 55 _ _ _ (Blk.new _ _ _) (by kernel_rfl) rfl (by simp [Value.oneCell']) rfl rfl rfl rfl ?_)
  rw [World.setRow_alloc_new]
  have s6 := hb6.size
  have gl6 := hB6.lt
  have o3g : (Value.slice A3 (wrV R hd ht).ch.zs.length kk3).ownBlock = none ∨ (Value.slice A3 (wrV R hd ht).ch.zs.length kk3).ownBlock ≠ some g4 := own_ne_lo HO5 hg4
  have HB7 : Blk (w6.alloc (.cells #[.int .i64 R.ch.dg, .int .i64 R.ch.tn, .string R.ch.nm, .slice (some ⟨g4, 0, none⟩) R.ch.zs.length R.ch.zs.length, .int .i64 R.ch.wd, .int .i64 R.ch.lf, .int .i64 R.ch.rt, .int .i64 R.ad, .int .i64 R.at_, .int .i64 R.bd, .int .i64 R.bt, .int .i64 R.cd, .int .i64 R.ct, .int .i64 R.dd, .int .i64 R.dt, .int .i64 R.ey, .int .i64 R.bo] 55)) w.heap.size 52 #[.int .i64 R.ch.dg, .int .i64 R.ch.tn, .string R.ch.nm, .slice A R.ch.zs.length c, .int .i64 R.ch.wd, .int .i64 R.ch.lf, .int .i64 R.ch.rt, .int .i64 R.ad, .int .i64 R.at_, .int .i64 R.bd, .int .i64 R.bt, .int .i64 R.cd, .int .i64 R.ct, .int .i64 R.dd, .int .i64 R.dt, .int .i64 R.ey, .int .i64 R.bo] := Blk.alloc _ (Blk.step hb6 HB5)
  have HF7 : Blk (w6.alloc (.cells #[.int .i64 R.ch.dg, .int .i64 R.ch.tn, .string R.ch.nm, .slice (some ⟨g4, 0, none⟩) R.ch.zs.length R.ch.zs.length, .int .i64 R.ch.wd, .int .i64 R.ch.lf, .int .i64 R.ch.rt, .int .i64 R.ad, .int .i64 R.at_, .int .i64 R.bd, .int .i64 R.bt, .int .i64 R.cd, .int .i64 R.ct, .int .i64 R.dd, .int .i64 R.dt, .int .i64 R.ey, .int .i64 R.bo] 55)) (w.heap.size + 1) 23 #[.int .i64 hd, .int .i64 ht] := Blk.alloc _ (Blk.step hb6 HF5)
  have HW7 : Blk (w6.alloc (.cells #[.int .i64 R.ch.dg, .int .i64 R.ch.tn, .string R.ch.nm, .slice (some ⟨g4, 0, none⟩) R.ch.zs.length R.ch.zs.length, .int .i64 R.ch.wd, .int .i64 R.ch.lf, .int .i64 R.ch.rt, .int .i64 R.ad, .int .i64 R.at_, .int .i64 R.bd, .int .i64 R.bt, .int .i64 R.cd, .int .i64 R.ct, .int .i64 R.dd, .int .i64 R.dt, .int .i64 R.ey, .int .i64 R.bo] 55)) x 55 #[.int .i64 (wrV R hd ht).ch.dg, .int .i64 (wrV R hd ht).ch.tn, .string (wrV R hd ht).ch.nm, .slice A3 (wrV R hd ht).ch.zs.length kk3, .int .i64 (wrV R hd ht).ch.wd, .int .i64 (wrV R hd ht).ch.lf, .int .i64 (wrV R hd ht).ch.rt, .int .i64 (wrV R hd ht).ad, .int .i64 (wrV R hd ht).at_, .int .i64 (wrV R hd ht).bd, .int .i64 (wrV R hd ht).bt, .int .i64 (wrV R hd ht).cd, .int .i64 (wrV R hd ht).ct, .int .i64 (wrV R hd ht).dd, .int .i64 (wrV R hd ht).dt, .int .i64 (wrV R hd ht).ey, .int .i64 (wrV R hd ht).bo] := Blk.alloc _ (Blk.step hb6 HX5)
  have HY7 : Blk (w6.alloc (.cells #[.int .i64 R.ch.dg, .int .i64 R.ch.tn, .string R.ch.nm, .slice (some ⟨g4, 0, none⟩) R.ch.zs.length R.ch.zs.length, .int .i64 R.ch.wd, .int .i64 R.ch.lf, .int .i64 R.ch.rt, .int .i64 R.ad, .int .i64 R.at_, .int .i64 R.bd, .int .i64 R.bt, .int .i64 R.cd, .int .i64 R.ct, .int .i64 R.dd, .int .i64 R.dt, .int .i64 R.ey, .int .i64 R.bo] 55)) w6.heap.size 55 #[.int .i64 R.ch.dg, .int .i64 R.ch.tn, .string R.ch.nm, .slice (some ⟨g4, 0, none⟩) R.ch.zs.length R.ch.zs.length, .int .i64 R.ch.wd, .int .i64 R.ch.lf, .int .i64 R.ch.rt, .int .i64 R.ad, .int .i64 R.at_, .int .i64 R.bd, .int .i64 R.bt, .int .i64 R.cd, .int .i64 R.ct, .int .i64 R.dd, .int .i64 R.dt, .int .i64 R.ey, .int .i64 R.bo] := Blk.new _ _ _
  have HG7 : Blk (w6.alloc (.cells #[.int .i64 R.ch.dg, .int .i64 R.ch.tn, .string R.ch.nm, .slice (some ⟨g4, 0, none⟩) R.ch.zs.length R.ch.zs.length, .int .i64 R.ch.wd, .int .i64 R.ch.lf, .int .i64 R.ch.rt, .int .i64 R.ad, .int .i64 R.at_, .int .i64 R.bd, .int .i64 R.bt, .int .i64 R.cd, .int .i64 R.ct, .int .i64 R.dd, .int .i64 R.dt, .int .i64 R.ey, .int .i64 R.bo] 55)) g4 2 (icells R.ch.zs) := Blk.alloc _ hB6
  have HO7 : Own (w6.alloc (.cells #[.int .i64 R.ch.dg, .int .i64 R.ch.tn, .string R.ch.nm, .slice (some ⟨g4, 0, none⟩) R.ch.zs.length R.ch.zs.length, .int .i64 R.ch.wd, .int .i64 R.ch.lf, .int .i64 R.ch.rt, .int .i64 R.ad, .int .i64 R.at_, .int .i64 R.bd, .int .i64 R.bt, .int .i64 R.cd, .int .i64 R.ct, .int .i64 R.dd, .int .i64 R.dt, .int .i64 R.ey, .int .i64 R.bo] 55)) B3 2 (.slice A3 (wrV R hd ht).ch.zs.length kk3) (wrV R hd ht).ch.zs := Own.alloc _ (Own.step hb6 HO5)
  have hbel7 : Below w.heap.size w (w6.alloc (.cells #[.int .i64 R.ch.dg, .int .i64 R.ch.tn, .string R.ch.nm, .slice (some ⟨g4, 0, none⟩) R.ch.zs.length R.ch.zs.length, .int .i64 R.ch.wd, .int .i64 R.ch.lf, .int .i64 R.ch.rt, .int .i64 R.ad, .int .i64 R.at_, .int .i64 R.bd, .int .i64 R.bt, .int .i64 R.cd, .int .i64 R.ct, .int .i64 R.dd, .int .i64 R.dt, .int .i64 R.ey, .int .i64 R.bo] 55)) := Bel.alloc (Bel.step hb6 hbel5) _
  have hV : (w6.alloc (.cells #[.int .i64 R.ch.dg, .int .i64 R.ch.tn, .string R.ch.nm, .slice (some ⟨g4, 0, none⟩) R.ch.zs.length R.ch.zs.length, .int .i64 R.ch.wd, .int .i64 R.ch.lf, .int .i64 R.ch.rt, .int .i64 R.ad, .int .i64 R.at_, .int .i64 R.bd, .int .i64 R.bt, .int .i64 R.cd, .int .i64 R.ct, .int .i64 R.dd, .int .i64 R.dt, .int .i64 R.ey, .int .i64 R.bo] 55)).heap.size = w6.heap.size + 1 := by simp only [World.size_alloc]
  have hlt7 : ∀ k, (Value.slice A3 (wrV R hd ht).ch.zs.length kk3).ownBlock = some k → k < w6.heap.size := fun k hk => Nat.lt_of_lt_of_le (HO5.lt k hk).2 s6
  have lxY : x < w6.heap.size := Nat.lt_of_lt_of_le lx5 s6
  have lxg : x < g4 := Nat.lt_of_lt_of_le lx5 hg4
  clear hb6 hB6 HB5 HF5 HX5 HI5 HO5 hbel5 hg4 s6 lx5
  generalize w6.alloc (.cells #[.int .i64 R.ch.dg, .int .i64 R.ch.tn, .string R.ch.nm, .slice (some ⟨g4, 0, none⟩) R.ch.zs.length R.ch.zs.length, .int .i64 R.ch.wd, .int .i64 R.ch.lf, .int .i64 R.ch.rt, .int .i64 R.ad, .int .i64 R.at_, .int .i64 R.bd, .int .i64 R.bt, .int .i64 R.cd, .int .i64 R.ct, .int .i64 R.dd, .int .i64 R.dt, .int .i64 R.ey, .int .i64 R.bo] 55) = V at HB7 HF7 HW7 HY7 HG7 HO7 hbel7 hV ⊢
  generalize w6.heap.size = Y at HY7 hV lxY gl6 hlt7 ⊢
  apply cut_Wr
  · intro key
    refine wp_region_held_drew (S := fun W => Blk W (Y) 55 #[.int .i64 R.ch.dg, .int .i64 R.ch.tn, .string R.ch.nm, .slice (some ⟨g4, 0, none⟩) R.ch.zs.length R.ch.zs.length, .int .i64 R.ch.wd, .int .i64 R.ch.lf, .int .i64 R.ch.rt, .int .i64 R.ad, .int .i64 R.at_, .int .i64 R.bd, .int .i64 R.bt, .int .i64 R.cd, .int .i64 R.ct, .int .i64 R.dd, .int .i64 R.dt, .int .i64 R.ey, .int .i64 R.bo] ∧ Blk W (w.heap.size + 1) 23 #[.int .i64 hd, .int .i64 ht]) (by kernel_rfl) (⟨Blk.drew HY7, Blk.drew HF7⟩) (fun hHeld => ?_)
    have hbel : Below V.heap.size V V.drew := Below.drew (Below.refl _ _)
    have hsz : V.heap.size ≤ V.drew.heap.size := Nat.le_refl _
    generalize V.drew = wA at hHeld hbel hsz ⊢
    refine wpAnyH_take (i := 0) (v := .agg #[.int .i64 R.ch.dg, .int .i64 R.ch.tn, .string R.ch.nm, .slice (some ⟨g4, 0, none⟩) R.ch.zs.length R.ch.zs.length, .int .i64 R.ch.wd, .int .i64 R.ch.lf, .int .i64 R.ch.rt, .int .i64 R.ad, .int .i64 R.at_, .int .i64 R.bd, .int .i64 R.bt, .int .i64 R.cd, .int .i64 R.ct, .int .i64 R.dd, .int .i64 R.dt, .int .i64 R.ey, .int .i64 R.bo]) rfl (by kernel_rfl) (by kernel_rfl) (by kernel_rfl) (fun _ _ _ h => h) (yieldsIf_load_blk 55 _ (Y) (fun _ h => h.1) Try.underlying55 (by kernel_rfl) (by rfl) rfl rfl) hHeld ?_
    try simp only [Act.put, List.setIfInBounds_toArray, List.set_cons_zero, List.set_cons_succ]
    refine wpAnyH_take (i := 1) (v := .agg #[.int .i64 hd, .int .i64 ht]) rfl (by kernel_rfl) (by kernel_rfl) (by kernel_rfl) (fun _ _ _ h => h) (yieldsIf_load_blk 23 _ (w.heap.size + 1) (fun _ h => h.2) Try.underlying23 (by kernel_rfl) (by rfl) rfl rfl) hHeld ?_
    try simp only [Act.put, List.setIfInBounds_toArray, List.set_cons_zero, List.set_cons_succ]
    refine wpAnyH_ready (rs := [2, 7]) (by kernel_rfl) (by simp) ?_
    refine AllReadyH.cons rfl (fun K hK => ?_) (AllReadyH.cons rfl (fun K hK => ?_) AllReadyH.nil)
    · skip
      go_simp
      go_at_call 30; refine (toFigure_c hd ht _).mono ?_; rintro e w114 ⟨rfl, hb114⟩
      go_wp2_with fail
      refine hK.out _ _ (⟨Blk.step hb114 hHeld.1, Blk.step hb114 hHeld.2⟩) (fun hHeld => ?_)
      clear hK K
      try simp only [Act.put, List.setIfInBounds_toArray, List.set_cons_zero, List.set_cons_succ]
      replace hbel := Bel.step hb114 hbel
      replace hsz : V.heap.size ≤ w114.heap.size := Nat.le_trans hsz hb114.size
      clear hb114
      refine wpAnyH_ready (rs := [3, 7]) (by kernel_rfl) (by simp) ?_
      refine AllReadyH.cons rfl (fun K hK => ?_) (AllReadyH.cons rfl (fun K hK => ?_) AllReadyH.nil)
      · skip
        go_simp
        go_at_call 31; refine (WidestRange_I _ _ _ _ _ hn hm _ (Blk.step hbel HG7).ints).mono ?_; rintro e w115 ⟨A5, kk5, rfl, hO115, hb115⟩
        go_wp2_with fail
        refine hK.out _ _ (⟨Blk.step hb115 hHeld.1, Blk.step hb115 hHeld.2⟩) (fun hHeld => ?_)
        clear hK K
        try simp only [Act.put, List.setIfInBounds_toArray, List.set_cons_zero, List.set_cons_succ]
        have HO := Own.ge_mono hO115 hsz
        clear hO115
        replace hbel := Bel.step hb115 hbel
        replace hsz : V.heap.size ≤ w115.heap.size := Nat.le_trans hsz hb115.size
        clear hb115
        refine wpAnyH_take (i := 4) (v := (.tuple #[.agg #[.int .i64 (wrV R hd ht).ch.dg, .int .i64 (wrV R hd ht).ch.tn, .string (wrV R hd ht).ch.nm, .slice A5 (wrV R hd ht).ch.zs.length kk5, .int .i64 (wrV R hd ht).ch.wd, .int .i64 (wrV R hd ht).ch.lf, .int .i64 (wrV R hd ht).ch.rt, .int .i64 (wrV R hd ht).ad, .int .i64 (wrV R hd ht).at_, .int .i64 (wrV R hd ht).bd, .int .i64 (wrV R hd ht).bt, .int .i64 (wrV R hd ht).cd, .int .i64 (wrV R hd ht).ct, .int .i64 (wrV R hd ht).dd, .int .i64 (wrV R hd ht).dt, .int .i64 (wrV R hd ht).ey, .int .i64 (wrV R hd ht).bo], .int .i64 (wrC R hd ht)])) rfl (by kernel_rfl) (by kernel_rfl) (by kernel_rfl) (fun _ _ _ h => h) (Or.inl ⟨by rfl, fun w _ => by simp [go_sem, execOp]⟩) hHeld ?_
        try simp only [Act.put, List.setIfInBounds_toArray, List.set_cons_zero, List.set_cons_succ]
        refine wpAnyH_take (i := 5) (v := (.agg #[.int .i64 (wrV R hd ht).ch.dg, .int .i64 (wrV R hd ht).ch.tn, .string (wrV R hd ht).ch.nm, .slice A5 (wrV R hd ht).ch.zs.length kk5, .int .i64 (wrV R hd ht).ch.wd, .int .i64 (wrV R hd ht).ch.lf, .int .i64 (wrV R hd ht).ch.rt, .int .i64 (wrV R hd ht).ad, .int .i64 (wrV R hd ht).at_, .int .i64 (wrV R hd ht).bd, .int .i64 (wrV R hd ht).bt, .int .i64 (wrV R hd ht).cd, .int .i64 (wrV R hd ht).ct, .int .i64 (wrV R hd ht).dd, .int .i64 (wrV R hd ht).dt, .int .i64 (wrV R hd ht).ey, .int .i64 (wrV R hd ht).bo])) rfl (by kernel_rfl) (by kernel_rfl) (by kernel_rfl) (fun _ _ _ h => h) (Or.inl ⟨by rfl, fun w _ => by simp [go_sem, execOp]⟩) hHeld ?_
        try simp only [Act.put, List.setIfInBounds_toArray, List.set_cons_zero, List.set_cons_succ]
        refine wpAnyH_take (i := 6) (v := (.int .i64 (wrC R hd ht))) rfl (by kernel_rfl) (by kernel_rfl) (by kernel_rfl) (fun _ _ _ h => h) (Or.inl ⟨by rfl, fun w _ => by simp [go_sem, execOp]⟩) hHeld ?_
        try simp only [Act.put, List.setIfInBounds_toArray, List.set_cons_zero, List.set_cons_succ]
        refine wpAnyH_ready (rs := [7]) (by kernel_rfl) (by simp) ?_
        refine AllReadyH.cons rfl (fun K hK => ?_) AllReadyH.nil
        · skip
          go_simp
          refine hK.out _ _ (⟨Blk.alloc _ hHeld.1, Blk.alloc _ hHeld.2⟩) (fun hHeld => ?_)
          clear hK K
          try simp only [Act.put, List.setIfInBounds_toArray, List.set_cons_zero, List.set_cons_succ]
          have HA := Blk.new w115 55 #[.int .i64 0, .int .i64 0, .string ⟨#[]⟩, .slice none 0 0, .int .i64 0, .int .i64 0, .int .i64 0, .int .i64 0, .int .i64 0, .int .i64 0, .int .i64 0, .int .i64 0, .int .i64 0, .int .i64 0, .int .i64 0, .int .i64 0, .int .i64 0]
          have hlo : V.heap.size ≤ w115.heap.size := hsz
          replace hbel : Below V.heap.size V (w115.alloc (.cells #[.int .i64 0, .int .i64 0, .string ⟨#[]⟩, .slice none 0 0, .int .i64 0, .int .i64 0, .int .i64 0, .int .i64 0, .int .i64 0, .int .i64 0, .int .i64 0, .int .i64 0, .int .i64 0, .int .i64 0, .int .i64 0, .int .i64 0, .int .i64 0] 55)) := Bel.alloc hbel _
          replace hsz : V.heap.size ≤ (w115.alloc (.cells #[.int .i64 0, .int .i64 0, .string ⟨#[]⟩, .slice none 0 0, .int .i64 0, .int .i64 0, .int .i64 0, .int .i64 0, .int .i64 0, .int .i64 0, .int .i64 0, .int .i64 0, .int .i64 0, .int .i64 0, .int .i64 0, .int .i64 0, .int .i64 0] 55)).heap.size := by simp only [World.size_alloc]; omega
          have hox : (Value.slice A5 (wrV R hd ht).ch.zs.length kk5).ownBlock ≠ some w115.heap.size := own_btw HO (Or.inr (Nat.le_refl _))
          replace HO := Own.alloc (.cells #[.int .i64 0, .int .i64 0, .string ⟨#[]⟩, .slice none 0 0, .int .i64 0, .int .i64 0, .int .i64 0, .int .i64 0, .int .i64 0, .int .i64 0, .int .i64 0, .int .i64 0, .int .i64 0, .int .i64 0, .int .i64 0, .int .i64 0, .int .i64 0] 55) HO
          generalize (w115.alloc (.cells #[.int .i64 0, .int .i64 0, .string ⟨#[]⟩, .slice none 0 0, .int .i64 0, .int .i64 0, .int .i64 0, .int .i64 0, .int .i64 0, .int .i64 0, .int .i64 0, .int .i64 0, .int .i64 0, .int .i64 0, .int .i64 0, .int .i64 0, .int .i64 0] 55)) = w116 at hHeld hbel hsz HA hlo HO ⊢
          generalize w115.heap.size = a at HA hlo hox ⊢
          have hall := And.intro hHeld (And.intro hbel (And.intro HA (And.intro hlo (And.intro HO hox))))
          clear hsz hHeld hbel HA hlo HO hox
          revert hall
          revert w116 a A5 kk5
          exact key.out
      · skip
        go_simp
        refine hK.out _ _ (⟨Blk.alloc _ hHeld.1, Blk.alloc _ hHeld.2⟩) (fun hHeld => ?_)
        clear hK K
        try simp only [Act.put, List.setIfInBounds_toArray, List.set_cons_zero, List.set_cons_succ]
        have HA := Blk.new w114 55 #[.int .i64 0, .int .i64 0, .string ⟨#[]⟩, .slice none 0 0, .int .i64 0, .int .i64 0, .int .i64 0, .int .i64 0, .int .i64 0, .int .i64 0, .int .i64 0, .int .i64 0, .int .i64 0, .int .i64 0, .int .i64 0, .int .i64 0, .int .i64 0]
        have hlo : V.heap.size ≤ w114.heap.size := hsz
        replace hbel : Below V.heap.size V (w114.alloc (.cells #[.int .i64 0, .int .i64 0, .string ⟨#[]⟩, .slice none 0 0, .int .i64 0, .int .i64 0, .int .i64 0, .int .i64 0, .int .i64 0, .int .i64 0, .int .i64 0, .int .i64 0, .int .i64 0, .int .i64 0, .int .i64 0, .int .i64 0, .int .i64 0] 55)) := Bel.alloc hbel _
        replace hsz : V.heap.size ≤ (w114.alloc (.cells #[.int .i64 0, .int .i64 0, .string ⟨#[]⟩, .slice none 0 0, .int .i64 0, .int .i64 0, .int .i64 0, .int .i64 0, .int .i64 0, .int .i64 0, .int .i64 0, .int .i64 0, .int .i64 0, .int .i64 0, .int .i64 0, .int .i64 0, .int .i64 0] 55)).heap.size := by simp only [World.size_alloc]; omega
        generalize (w114.alloc (.cells #[.int .i64 0, .int .i64 0, .string ⟨#[]⟩, .slice none 0 0, .int .i64 0, .int .i64 0, .int .i64 0, .int .i64 0, .int .i64 0, .int .i64 0, .int .i64 0, .int .i64 0, .int .i64 0, .int .i64 0, .int .i64 0, .int .i64 0, .int .i64 0] 55)) = w117 at hHeld hbel hsz HA hlo ⊢
        generalize w114.heap.size = a at HA hlo ⊢
        refine wpAnyH_ready (rs := [3]) (by kernel_rfl) (by simp) ?_
        refine AllReadyH.cons rfl (fun K hK => ?_) AllReadyH.nil
        · skip
          have hlt := HA.lt
          go_simp
          go_at_call 31; refine (WidestRange_I _ _ _ _ _ hn hm _ (Blk.step hbel HG7).ints).mono ?_; rintro e w118 ⟨A5, kk5, rfl, hO118, hb118⟩
          go_wp2_with fail
          refine hK.out _ _ (⟨Blk.step hb118 hHeld.1, Blk.step hb118 hHeld.2⟩) (fun hHeld => ?_)
          clear hK K
          try simp only [Act.put, List.setIfInBounds_toArray, List.set_cons_zero, List.set_cons_succ]
          have HO := Own.ge_mono hO118 hsz
          have hox : (Value.slice A5 (wrV R hd ht).ch.zs.length kk5).ownBlock ≠ some a := own_btw hO118 (Or.inl hlt)
          clear hO118
          replace hbel := Bel.step hb118 hbel
          replace hsz : V.heap.size ≤ w118.heap.size := Nat.le_trans hsz hb118.size
          replace HA := Blk.step hb118 HA
          clear hlt
          clear hb118
          refine wpAnyH_take (i := 4) (v := (.tuple #[.agg #[.int .i64 (wrV R hd ht).ch.dg, .int .i64 (wrV R hd ht).ch.tn, .string (wrV R hd ht).ch.nm, .slice A5 (wrV R hd ht).ch.zs.length kk5, .int .i64 (wrV R hd ht).ch.wd, .int .i64 (wrV R hd ht).ch.lf, .int .i64 (wrV R hd ht).ch.rt, .int .i64 (wrV R hd ht).ad, .int .i64 (wrV R hd ht).at_, .int .i64 (wrV R hd ht).bd, .int .i64 (wrV R hd ht).bt, .int .i64 (wrV R hd ht).cd, .int .i64 (wrV R hd ht).ct, .int .i64 (wrV R hd ht).dd, .int .i64 (wrV R hd ht).dt, .int .i64 (wrV R hd ht).ey, .int .i64 (wrV R hd ht).bo], .int .i64 (wrC R hd ht)])) rfl (by kernel_rfl) (by kernel_rfl) (by kernel_rfl) (fun _ _ _ h => h) (Or.inl ⟨by rfl, fun w _ => by simp [go_sem, execOp]⟩) hHeld ?_
          try simp only [Act.put, List.setIfInBounds_toArray, List.set_cons_zero, List.set_cons_succ]
          refine wpAnyH_take (i := 5) (v := (.agg #[.int .i64 (wrV R hd ht).ch.dg, .int .i64 (wrV R hd ht).ch.tn, .string (wrV R hd ht).ch.nm, .slice A5 (wrV R hd ht).ch.zs.length kk5, .int .i64 (wrV R hd ht).ch.wd, .int .i64 (wrV R hd ht).ch.lf, .int .i64 (wrV R hd ht).ch.rt, .int .i64 (wrV R hd ht).ad, .int .i64 (wrV R hd ht).at_, .int .i64 (wrV R hd ht).bd, .int .i64 (wrV R hd ht).bt, .int .i64 (wrV R hd ht).cd, .int .i64 (wrV R hd ht).ct, .int .i64 (wrV R hd ht).dd, .int .i64 (wrV R hd ht).dt, .int .i64 (wrV R hd ht).ey, .int .i64 (wrV R hd ht).bo])) rfl (by kernel_rfl) (by kernel_rfl) (by kernel_rfl) (fun _ _ _ h => h) (Or.inl ⟨by rfl, fun w _ => by simp [go_sem, execOp]⟩) hHeld ?_
          try simp only [Act.put, List.setIfInBounds_toArray, List.set_cons_zero, List.set_cons_succ]
          refine wpAnyH_take (i := 6) (v := (.int .i64 (wrC R hd ht))) rfl (by kernel_rfl) (by kernel_rfl) (by kernel_rfl) (fun _ _ _ h => h) (Or.inl ⟨by rfl, fun w _ => by simp [go_sem, execOp]⟩) hHeld ?_
          try simp only [Act.put, List.setIfInBounds_toArray, List.set_cons_zero, List.set_cons_succ]
          exact key.out _ _ _ _ (And.intro hHeld (And.intro hbel (And.intro HA (And.intro hlo (And.intro HO hox)))))
    · skip
      go_simp
      refine hK.out _ _ (⟨Blk.alloc _ hHeld.1, Blk.alloc _ hHeld.2⟩) (fun hHeld => ?_)
      clear hK K
      try simp only [Act.put, List.setIfInBounds_toArray, List.set_cons_zero, List.set_cons_succ]
      have HA := Blk.new wA 55 #[.int .i64 0, .int .i64 0, .string ⟨#[]⟩, .slice none 0 0, .int .i64 0, .int .i64 0, .int .i64 0, .int .i64 0, .int .i64 0, .int .i64 0, .int .i64 0, .int .i64 0, .int .i64 0, .int .i64 0, .int .i64 0, .int .i64 0, .int .i64 0]
      have hlo : V.heap.size ≤ wA.heap.size := hsz
      replace hbel : Below V.heap.size V (wA.alloc (.cells #[.int .i64 0, .int .i64 0, .string ⟨#[]⟩, .slice none 0 0, .int .i64 0, .int .i64 0, .int .i64 0, .int .i64 0, .int .i64 0, .int .i64 0, .int .i64 0, .int .i64 0, .int .i64 0, .int .i64 0, .int .i64 0, .int .i64 0, .int .i64 0] 55)) := Bel.alloc hbel _
      replace hsz : V.heap.size ≤ (wA.alloc (.cells #[.int .i64 0, .int .i64 0, .string ⟨#[]⟩, .slice none 0 0, .int .i64 0, .int .i64 0, .int .i64 0, .int .i64 0, .int .i64 0, .int .i64 0, .int .i64 0, .int .i64 0, .int .i64 0, .int .i64 0, .int .i64 0, .int .i64 0, .int .i64 0] 55)).heap.size := by simp only [World.size_alloc]; omega
      generalize (wA.alloc (.cells #[.int .i64 0, .int .i64 0, .string ⟨#[]⟩, .slice none 0 0, .int .i64 0, .int .i64 0, .int .i64 0, .int .i64 0, .int .i64 0, .int .i64 0, .int .i64 0, .int .i64 0, .int .i64 0, .int .i64 0, .int .i64 0, .int .i64 0, .int .i64 0] 55)) = w119 at hHeld hbel hsz HA hlo ⊢
      generalize wA.heap.size = a at HA hlo ⊢
      refine wpAnyH_ready (rs := [2]) (by kernel_rfl) (by simp) ?_
      refine AllReadyH.cons rfl (fun K hK => ?_) AllReadyH.nil
      · skip
        have hlt := HA.lt
        go_simp
        go_at_call 30; refine (toFigure_c hd ht _).mono ?_; rintro e w120 ⟨rfl, hb120⟩
        go_wp2_with fail
        refine hK.out _ _ (⟨Blk.step hb120 hHeld.1, Blk.step hb120 hHeld.2⟩) (fun hHeld => ?_)
        clear hK K
        try simp only [Act.put, List.setIfInBounds_toArray, List.set_cons_zero, List.set_cons_succ]
        replace hbel := Bel.step hb120 hbel
        replace hsz : V.heap.size ≤ w120.heap.size := Nat.le_trans hsz hb120.size
        replace HA := Blk.step hb120 HA
        clear hlt
        clear hb120
        refine wpAnyH_ready (rs := [3]) (by kernel_rfl) (by simp) ?_
        refine AllReadyH.cons rfl (fun K hK => ?_) AllReadyH.nil
        · skip
          have hlt := HA.lt
          go_simp
          go_at_call 31; refine (WidestRange_I _ _ _ _ _ hn hm _ (Blk.step hbel HG7).ints).mono ?_; rintro e w121 ⟨A5, kk5, rfl, hO121, hb121⟩
          go_wp2_with fail
          refine hK.out _ _ (⟨Blk.step hb121 hHeld.1, Blk.step hb121 hHeld.2⟩) (fun hHeld => ?_)
          clear hK K
          try simp only [Act.put, List.setIfInBounds_toArray, List.set_cons_zero, List.set_cons_succ]
          have HO := Own.ge_mono hO121 hsz
          have hox : (Value.slice A5 (wrV R hd ht).ch.zs.length kk5).ownBlock ≠ some a := own_btw hO121 (Or.inl hlt)
          clear hO121
          replace hbel := Bel.step hb121 hbel
          replace hsz : V.heap.size ≤ w121.heap.size := Nat.le_trans hsz hb121.size
          replace HA := Blk.step hb121 HA
          clear hlt
          clear hb121
          refine wpAnyH_take (i := 4) (v := (.tuple #[.agg #[.int .i64 (wrV R hd ht).ch.dg, .int .i64 (wrV R hd ht).ch.tn, .string (wrV R hd ht).ch.nm, .slice A5 (wrV R hd ht).ch.zs.length kk5, .int .i64 (wrV R hd ht).ch.wd, .int .i64 (wrV R hd ht).ch.lf, .int .i64 (wrV R hd ht).ch.rt, .int .i64 (wrV R hd ht).ad, .int .i64 (wrV R hd ht).at_, .int .i64 (wrV R hd ht).bd, .int .i64 (wrV R hd ht).bt, .int .i64 (wrV R hd ht).cd, .int .i64 (wrV R hd ht).ct, .int .i64 (wrV R hd ht).dd, .int .i64 (wrV R hd ht).dt, .int .i64 (wrV R hd ht).ey, .int .i64 (wrV R hd ht).bo], .int .i64 (wrC R hd ht)])) rfl (by kernel_rfl) (by kernel_rfl) (by kernel_rfl) (fun _ _ _ h => h) (Or.inl ⟨by rfl, fun w _ => by simp [go_sem, execOp]⟩) hHeld ?_
          try simp only [Act.put, List.setIfInBounds_toArray, List.set_cons_zero, List.set_cons_succ]
          refine wpAnyH_take (i := 5) (v := (.agg #[.int .i64 (wrV R hd ht).ch.dg, .int .i64 (wrV R hd ht).ch.tn, .string (wrV R hd ht).ch.nm, .slice A5 (wrV R hd ht).ch.zs.length kk5, .int .i64 (wrV R hd ht).ch.wd, .int .i64 (wrV R hd ht).ch.lf, .int .i64 (wrV R hd ht).ch.rt, .int .i64 (wrV R hd ht).ad, .int .i64 (wrV R hd ht).at_, .int .i64 (wrV R hd ht).bd, .int .i64 (wrV R hd ht).bt, .int .i64 (wrV R hd ht).cd, .int .i64 (wrV R hd ht).ct, .int .i64 (wrV R hd ht).dd, .int .i64 (wrV R hd ht).dt, .int .i64 (wrV R hd ht).ey, .int .i64 (wrV R hd ht).bo])) rfl (by kernel_rfl) (by kernel_rfl) (by kernel_rfl) (fun _ _ _ h => h) (Or.inl ⟨by rfl, fun w _ => by simp [go_sem, execOp]⟩) hHeld ?_
          try simp only [Act.put, List.setIfInBounds_toArray, List.set_cons_zero, List.set_cons_succ]
          refine wpAnyH_take (i := 6) (v := (.int .i64 (wrC R hd ht))) rfl (by kernel_rfl) (by kernel_rfl) (by kernel_rfl) (fun _ _ _ h => h) (Or.inl ⟨by rfl, fun w _ => by simp [go_sem, execOp]⟩) hHeld ?_
          try simp only [Act.put, List.setIfInBounds_toArray, List.set_cons_zero, List.set_cons_succ]
          exact key.out _ _ _ _ (And.intro hHeld (And.intro hbel (And.intro HA (And.intro hlo (And.intro HO hox)))))
  intro A5 kk5 W z ⟨hHeld, hbel, HX, hlo, HO, hox⟩
  refine wpAnyH_ready (rs := [8]) (by kernel_rfl) (by simp) ?_
  refine AllReadyH.cons rfl (fun K hK => ?_) AllReadyH.nil
  refine step_store_blk (cs := #[.int .i64 (wrV R hd ht).ch.dg, .int .i64 (wrV R hd ht).ch.tn, .string (wrV R hd ht).ch.nm, .slice A5 (wrV R hd ht).ch.zs.length kk5, .int .i64 (wrV R hd ht).ch.wd, .int .i64 (wrV R hd ht).ch.lf, .int .i64 (wrV R hd ht).ch.rt, .int .i64 (wrV R hd ht).ad, .int .i64 (wrV R hd ht).at_, .int .i64 (wrV R hd ht).bd, .int .i64 (wrV R hd ht).bt, .int .i64 (wrV R hd ht).cd, .int .i64 (wrV R hd ht).ct, .int .i64 (wrV R hd ht).dd, .int .i64 (wrV R hd ht).dt, .int .i64 (wrV R hd ht).ey, .int .i64 (wrV R hd ht).bo]) 55 _ _ z HX (by kernel_rfl) rfl (by simp [Value.oneCell']) rfl rfl rfl rfl rfl ?_
  refine hK.out _ _ ⟨Blk.setRow_far _ (by omega) hHeld.1, Blk.setRow_far _ (by omega) hHeld.2⟩ (fun hHeld => ?_)
  clear hK K
  try simp only [Act.put, List.setIfInBounds_toArray, List.set_cons_zero, List.set_cons_succ]
  replace HX := Blk.setRow #[.int .i64 (wrV R hd ht).ch.dg, .int .i64 (wrV R hd ht).ch.tn, .string (wrV R hd ht).ch.nm, .slice A5 (wrV R hd ht).ch.zs.length kk5, .int .i64 (wrV R hd ht).ch.wd, .int .i64 (wrV R hd ht).ch.lf, .int .i64 (wrV R hd ht).ch.rt, .int .i64 (wrV R hd ht).ad, .int .i64 (wrV R hd ht).at_, .int .i64 (wrV R hd ht).bd, .int .i64 (wrV R hd ht).bt, .int .i64 (wrV R hd ht).cd, .int .i64 (wrV R hd ht).ct, .int .i64 (wrV R hd ht).dd, .int .i64 (wrV R hd ht).dt, .int .i64 (wrV R hd ht).ey, .int .i64 (wrV R hd ht).bo] HX
  replace HO := Own.kept HO (grown_setRow W z #[.int .i64 (wrV R hd ht).ch.dg, .int .i64 (wrV R hd ht).ch.tn, .string (wrV R hd ht).ch.nm, .slice A5 (wrV R hd ht).ch.zs.length kk5, .int .i64 (wrV R hd ht).ch.wd, .int .i64 (wrV R hd ht).ch.lf, .int .i64 (wrV R hd ht).ch.rt, .int .i64 (wrV R hd ht).ad, .int .i64 (wrV R hd ht).at_, .int .i64 (wrV R hd ht).bd, .int .i64 (wrV R hd ht).bt, .int .i64 (wrV R hd ht).cd, .int .i64 (wrV R hd ht).ct, .int .i64 (wrV R hd ht).dd, .int .i64 (wrV R hd ht).dt, .int .i64 (wrV R hd ht).ey, .int .i64 (wrV R hd ht).bo]) (.inr hox)
  replace hbel := Bel.setRow hbel hlo #[.int .i64 (wrV R hd ht).ch.dg, .int .i64 (wrV R hd ht).ch.tn, .string (wrV R hd ht).ch.nm, .slice A5 (wrV R hd ht).ch.zs.length kk5, .int .i64 (wrV R hd ht).ch.wd, .int .i64 (wrV R hd ht).ch.lf, .int .i64 (wrV R hd ht).ch.rt, .int .i64 (wrV R hd ht).ad, .int .i64 (wrV R hd ht).at_, .int .i64 (wrV R hd ht).bd, .int .i64 (wrV R hd ht).bt, .int .i64 (wrV R hd ht).cd, .int .i64 (wrV R hd ht).ct, .int .i64 (wrV R hd ht).dd, .int .i64 (wrV R hd ht).dt, .int .i64 (wrV R hd ht).ey, .int .i64 (wrV R hd ht).bo]
  generalize W.setRow z #[.int .i64 (wrV R hd ht).ch.dg, .int .i64 (wrV R hd ht).ch.tn, .string (wrV R hd ht).ch.nm, .slice A5 (wrV R hd ht).ch.zs.length kk5, .int .i64 (wrV R hd ht).ch.wd, .int .i64 (wrV R hd ht).ch.lf, .int .i64 (wrV R hd ht).ch.rt, .int .i64 (wrV R hd ht).ad, .int .i64 (wrV R hd ht).at_, .int .i64 (wrV R hd ht).bd, .int .i64 (wrV R hd ht).bt, .int .i64 (wrV R hd ht).cd, .int .i64 (wrV R hd ht).ct, .int .i64 (wrV R hd ht).dd, .int .i64 (wrV R hd ht).dt, .int .i64 (wrV R hd ht).ey, .int .i64 (wrV R hd ht).bo] = W at hHeld hbel HX HO ⊢
  refine wpAnyH_take (i := 9) (v := (.int .i64 (wrC R hd ht))) rfl (by kernel_rfl) (by kernel_rfl) (by kernel_rfl) (fun _ _ _ h => h) (Or.inl ⟨by rfl, fun w _ => by simp [go_sem, execOp]⟩) hHeld ?_
  simp only [Act.put, List.getElem_toArray, List.getElem_cons_succ, List.getElem_cons_zero, List.setIfInBounds_toArray, List.set_cons_zero, List.set_cons_succ]
  refine wpAnyH_done (by kernel_rfl) ?_ _
  clear hHeld
  have lo7 := hlo
  rw [hV] at lo7
  have hq0 : (0 : Int) ≤ (R.ch.zs.length : Int) := by omega
  have hq1 : (0 : Int) ≤ ((wrV R hd ht).ch.zs.length : Int) := by omega
  have o5g : (Value.slice A5 (wrV R hd ht).ch.zs.length kk5).ownBlock = none ∨ (Value.slice A5 (wrV R hd ht).ch.zs.length kk5).ownBlock ≠ some g4 := own_ne_hi HO (by omega)
  have o50 : ∀ k, (Value.slice A5 (wrV R hd ht).ch.zs.length kk5).ownBlock = some k → w.heap.size < k := fun k hk => by have := (HO.lt k hk).1; omega
  have o54 : (Value.slice A5 (wrV R hd ht).ch.zs.length kk5).ownBlock ≠ some x := own_btw HO (Or.inl (by omega))
  have o56 : (Value.slice A5 (wrV R hd ht).ch.zs.length kk5).ownBlock ≠ some Y := own_btw HO (Or.inl (by omega))
  have o57 := hox
  have o35 : (Value.slice A3 (wrV R hd ht).ch.zs.length kk3).ownBlock = none ∨ (Value.slice A3 (wrV R hd ht).ch.zs.length kk3).ownBlock ≠ (Value.slice A5 (wrV R hd ht).ch.zs.length kk5).ownBlock := by
    cases hq : (Value.slice A3 (wrV R hd ht).ch.zs.length kk3).ownBlock with
    | none => exact Or.inl rfl
    | some j => exact Or.inr fun e => by have h1 := hlt7 j hq; have h2 := (HO.lt j e.symm).1; omega
  have hS5 : SR w W 52 55 2 R (wrV R hd ht) A A3 A5 c kk3 kk5 x Y z g4 B3 V.heap.size (wrV R hd ht).ch.zs (wrV R hd ht).ch.zs := ⟨Bel.step hbel hbel7, Blk.step hbel HB7, Blk.step hbel HW7, Blk.step hbel HY7, HX, Own.step hbel HO7, HO, hA⟩
  have hX5 := Blk.step hbel HG7
  have HF8 := Blk.step hbel HF7
  clear hbel HX HO hox hlo HB7 HF7 HW7 HY7 HG7 HO7 hbel7 hlt7
  go_wp2_with (first | (refine wpList_load_blkG 55 _ _ hS5.got Try.underlying55 (by kernel_rfl) rfl rfl (by rfl) ?_) | (refine wpList_load_blkG 55 _ _ hS5.want Try.underlying55 (by kernel_rfl) rfl rfl (by rfl) ?_))
  go_at_call 32; refine (eqRelease_c (wrV R hd ht) _ _ _ _ hdl _ hS5.own5.ints hS5.own3.ints).mono ?_; rintro e w6 ⟨rfl, hb6⟩
  have hS6 := SR.step hb6 hS5
  have HF6 := Blk.step hb6 HF8
  have hX6 := Blk.step hb6 hX5
  have HI6 := Ints.step hS6.bel hS6.ints
  have HJ6 := hX6.ints
  clear hS5 hX5 hb6 HF8
  go_upto_region 10 with (fail)
  refine wp_region_held_drew (S := fun W => SR w W 52 55 2 R (wrV R hd ht) A A3 A5 c kk3 kk5 x Y z g4 B3 V.heap.size (wrV R hd ht).ch.zs (wrV R hd ht).ch.zs) (by kernel_rfl) (SR.step (Below.drew (Below.refl _ _)) hS6) (fun hHeld => ?_)
  have hbA : Below w6.heap.size w6 w6.drew := Below.drew (Below.refl _ _)
  have hXA := Blk.step hbA hX6
  have HIA := Ints.step hbA HI6
  have HJA := Ints.step hbA HJ6
  have HFA := Blk.step hbA HF6
  generalize w6.drew = wA at hHeld hXA HIA HJA HFA ⊢
  clear hS6 hX6 HI6 HJ6 hbA HF6
  refine wpAnyH_take (i := 0) (v := .agg #[.int .i64 R.ch.dg, .int .i64 R.ch.tn, .string R.ch.nm, .slice (some ⟨g4, 0, none⟩) R.ch.zs.length R.ch.zs.length, .int .i64 R.ch.wd, .int .i64 R.ch.lf, .int .i64 R.ch.rt, .int .i64 R.ad, .int .i64 R.at_, .int .i64 R.bd, .int .i64 R.bt, .int .i64 R.cd, .int .i64 R.ct, .int .i64 R.dd, .int .i64 R.dt, .int .i64 R.ey, .int .i64 R.bo]) rfl (by kernel_rfl) (by kernel_rfl) (by kernel_rfl) (fun _ _ _ h => h) (yieldsIf_load_blk 55 _ (Y) (fun _ h => h.x0) Try.underlying55 (by kernel_rfl) (by rfl) rfl rfl) hHeld ?_
  try simp only [Act.put, List.setIfInBounds_toArray, List.set_cons_zero, List.set_cons_succ]
  refine wpAnyH_take (i := 1) (v := .agg #[.int .i64 R.ch.dg, .int .i64 R.ch.tn, .string R.ch.nm, .slice A R.ch.zs.length c, .int .i64 R.ch.wd, .int .i64 R.ch.lf, .int .i64 R.ch.rt, .int .i64 R.ad, .int .i64 R.at_, .int .i64 R.bd, .int .i64 R.bt, .int .i64 R.cd, .int .i64 R.ct, .int .i64 R.dd, .int .i64 R.dt, .int .i64 R.ey, .int .i64 R.bo]) rfl (by kernel_rfl) (by kernel_rfl) (by kernel_rfl) (fun _ _ _ h => h) (yieldsIf_load_blk 52 _ (w.heap.size) (fun _ h => h.arg) Try.underlying52 (by kernel_rfl) (by rfl) rfl rfl) hHeld ?_
  try simp only [Act.put, List.setIfInBounds_toArray, List.set_cons_zero, List.set_cons_succ]
  refine wpAnyH_ready (rs := [2]) (by kernel_rfl) (by simp) ?_
  refine AllReadyH.cons rfl (fun K hK => ?_) AllReadyH.nil
  go_simp
  go_at_call 29; refine (toRelease_c _ _ _ hn _ HIA).mono ?_; rintro e w7 ⟨g7, rfl, hg7, hB7, hb7⟩; obtain ⟨hc7, hf7, hz7⟩ := bel hb7; (try simp only [World.size_drew, World.cell?_drew, World.frozen?_drew] at hc7 hf7 hz7); (try simp only [World.heap_drewN, World.cell?_drewN, World.frozen?_drewN] at hc7 hf7 hz7); (try have hl7 : w.heap.size < w7.heap.size := by (have hq := hb7.size; (try simp at hq); omega)); (try have hm7 : w.heap.size + 1 < w7.heap.size := by (have hq := hb7.size; (try simp at hq); omega)); (try have hn7 : w.heap.size + 1 + 1 < w7.heap.size := by (have hq := hb7.size; (try simp at hq); omega)); (try have hp7 : b < w7.heap.size := by (have hq := hb7.size; (try simp at hq); omega)); (try have ho7 : b' < w7.heap.size := by (have hq := hb7.size; (try simp at hq); omega))
  go_wp2_with fail
  refine hK.out _ _ (SR.step hb7 hHeld) (fun hHeld => ?_)
  clear hK K
  try simp only [Act.put, List.setIfInBounds_toArray, List.set_cons_zero, List.set_cons_succ]
  have HJ7 := Ints.step hb7 HJA
  have hX7 := Blk.step hb7 hXA
  have HFB := Blk.step hb7 HFA
  have HK7 := hB7.ints
  clear hb7 hc7 hf7 hz7 hB7 hg7 HIA HJA hXA HFA
  refine wpAnyH_ready (rs := [3]) (by kernel_rfl) (by simp) ?_
  refine AllReadyH.cons rfl (fun K hK => ?_) AllReadyH.nil
  go_simp
  go_at_call 32; refine (eqRelease_c _ _ _ _ _ hn _ HJ7 HK7).mono ?_; rintro e w8 ⟨rfl, hb8⟩; obtain ⟨hc8, hf8, hz8⟩ := bel hb8; (try simp only [World.size_drew, World.cell?_drew, World.frozen?_drew] at hc8 hf8 hz8); (try simp only [World.heap_drewN, World.cell?_drewN, World.frozen?_drewN] at hc8 hf8 hz8); (try have hl8 : w.heap.size < w8.heap.size := by (have hq := hb8.size; (try simp at hq); omega)); (try have hm8 : w.heap.size + 1 < w8.heap.size := by (have hq := hb8.size; (try simp at hq); omega)); (try have hn8 : w.heap.size + 1 + 1 < w8.heap.size := by (have hq := hb8.size; (try simp at hq); omega)); (try have hp8 : b < w8.heap.size := by (have hq := hb8.size; (try simp at hq); omega)); (try have ho8 : b' < w8.heap.size := by (have hq := hb8.size; (try simp at hq); omega))
  go_wp2_with fail
  refine hK.out _ _ (SR.step hb8 hHeld) (fun hHeld => ?_)
  clear hK K
  try simp only [Act.put, List.setIfInBounds_toArray, List.set_cons_zero, List.set_cons_succ]
  have hX8 := Blk.own (Blk.step hb8 hX7) (by unfold maxLen; omega) 0 (Nat.zero_le _)
  have HFC := Blk.step hb8 HFB
  have hS8 := hHeld
  clear hb8 hc8 hf8 hz8 HJ7 HK7 hX7 HFB
  refine wpAnyH_take (i := 4) (v := (.bool false)) rfl (by kernel_rfl) (by kernel_rfl) (by kernel_rfl) (fun _ _ _ h => h) (Or.inl ⟨by rfl, fun w _ => by simp [go_sem, execOp]⟩) hHeld ?_
  try simp only [Act.put, List.setIfInBounds_toArray, List.set_cons_zero, List.set_cons_succ]
  refine wpAnyH_done (by kernel_rfl) ?_ _
  clear hHeld
  go_wp2_with (refine wpList_load_blkG 55 _ _ hS8.x0 Try.underlying55 (by kernel_rfl) rfl rfl (by rfl) ?_)
  refine (markRelease_c R _ _ _ _ _ 1 (by omega) (by omega) (by omega) _ hX8).mono ?_; rintro e w9 ⟨rfl, hX9, hg9⟩
  have hg9b : w8.grownBy w9 (some g4) := hg9
  have HFD := Blk.grown HFC hg9b (fun h => by injection h; omega)
  have hS9 := SR.grown hg9b (fun k hk => by cases hk; omega) (fun h => by injection h; omega) (fun h => by injection h; omega) (fun h => by injection h; omega) o3g (Own.kept hS8.own5 hg9b o5g) hS8
  clear hX8 hX9 hg9 hg9b hS8 HFC
  go_wp2_with (first | (refine wpList_load_blkG 55 _ _ hS9.got Try.underlying55 (by kernel_rfl) rfl rfl (by rfl) ?_) | (refine wpList_load_blkG 55 _ _ hS9.want Try.underlying55 (by kernel_rfl) rfl rfl (by rfl) ?_))
  go_at_call 32; refine (eqRelease_c (wrV R hd ht) _ _ _ _ hdl _ hS9.own5.ints hS9.own3.ints).mono ?_; rintro e w10 ⟨rfl, hb10⟩
  have hS10 := SR.step hb10 hS9
  have HFE := Blk.step hb10 HFD
  clear hS9 hb10 HFD
  go_wp2_with (refine wpList_load_blkG 55 _ _ hS10.got Try.underlying55 (by kernel_rfl) rfl rfl (by rfl) ?_)
  refine (markRelease_c (wrV R hd ht) _ _ _ _ _ 1 (by omega) (by omega) (by omega) _ hS10.own5).mono ?_; rintro e w11 ⟨rfl, hM11, hg11⟩
  have HFF := Blk.grown HFE hg11 (fun h => by have := (hS10.own5.lt _ h.symm).1; omega)
  have hS11 := SR.grown hg11 o50 o54 o56 o57 o35 hM11 hS10
  clear hS10 hM11 hg11 HFE
  go_wp2_with (refine wpList_load_blkG 55 _ _ hS11.got Try.underlying55 (by kernel_rfl) rfl rfl (by rfl) ?_)
  refine (heldRelease_c (wrV R hd ht) _ _ _ (wrV R hd ht).ch.zs.length _ 1 (by omega) (by omega) (by omega) _ hS11.own5).mono ?_; rintro e w12 ⟨rfl, hb12⟩
  have hS12 := SR.step hb12 hS11
  have HF12 := Blk.step hb12 HFF
  have HI12 := Ints.step hS12.bel hS12.ints
  have HB12 := hS12.arg
  have s12 := HF12.lt
  clear hS11 hb12 HFF
  go_upto_region 24 with (fail)
  apply cut_Wr
  · intro key
    refine wp_region_held_drew (S := fun W => Blk W (w.heap.size) 52 #[.int .i64 R.ch.dg, .int .i64 R.ch.tn, .string R.ch.nm, .slice A R.ch.zs.length c, .int .i64 R.ch.wd, .int .i64 R.ch.lf, .int .i64 R.ch.rt, .int .i64 R.ad, .int .i64 R.at_, .int .i64 R.bd, .int .i64 R.bt, .int .i64 R.cd, .int .i64 R.ct, .int .i64 R.dd, .int .i64 R.dt, .int .i64 R.ey, .int .i64 R.bo] ∧ Blk W (w.heap.size + 1) 23 #[.int .i64 hd, .int .i64 ht]) (by kernel_rfl) (⟨Blk.drew HB12, Blk.drew HF12⟩) (fun hHeld => ?_)
    have hbel : Below w12.heap.size w12 w12.drew := Below.drew (Below.refl _ _)
    have hsz : w12.heap.size ≤ w12.drew.heap.size := Nat.le_refl _
    generalize w12.drew = wA at hHeld hbel hsz ⊢
    refine wpAnyH_take (i := 0) (v := .agg #[.int .i64 R.ch.dg, .int .i64 R.ch.tn, .string R.ch.nm, .slice A R.ch.zs.length c, .int .i64 R.ch.wd, .int .i64 R.ch.lf, .int .i64 R.ch.rt, .int .i64 R.ad, .int .i64 R.at_, .int .i64 R.bd, .int .i64 R.bt, .int .i64 R.cd, .int .i64 R.ct, .int .i64 R.dd, .int .i64 R.dt, .int .i64 R.ey, .int .i64 R.bo]) rfl (by kernel_rfl) (by kernel_rfl) (by kernel_rfl) (fun _ _ _ h => h) (yieldsIf_load_blk 52 _ (w.heap.size) (fun _ h => h.1) Try.underlying52 (by kernel_rfl) (by rfl) rfl rfl) hHeld ?_
    try simp only [Act.put, List.setIfInBounds_toArray, List.set_cons_zero, List.set_cons_succ]
    refine wpAnyH_take (i := 2) (v := .agg #[.int .i64 hd, .int .i64 ht]) rfl (by kernel_rfl) (by kernel_rfl) (by kernel_rfl) (fun _ _ _ h => h) (yieldsIf_load_blk 23 _ (w.heap.size + 1) (fun _ h => h.2) Try.underlying23 (by kernel_rfl) (by rfl) rfl rfl) hHeld ?_
    try simp only [Act.put, List.setIfInBounds_toArray, List.set_cons_zero, List.set_cons_succ]
    refine wpAnyH_ready (rs := [1, 8]) (by kernel_rfl) (by simp) ?_
    refine AllReadyH.cons rfl (fun K hK => ?_) (AllReadyH.cons rfl (fun K hK => ?_) AllReadyH.nil)
    · skip
      go_simp
      go_at_call 29; refine (toRelease_c _ _ _ hn _ (Ints.step hbel HI12)).mono ?_; rintro e w122 ⟨g122, rfl, hg122, hB122, hb122⟩
      go_wp2_with fail
      refine hK.out _ _ (⟨Blk.step hb122 hHeld.1, Blk.step hb122 hHeld.2⟩) (fun hHeld => ?_)
      clear hK K
      try simp only [Act.put, List.setIfInBounds_toArray, List.set_cons_zero, List.set_cons_succ]
      replace hbel := Bel.step hb122 hbel
      replace hsz : w12.heap.size ≤ w122.heap.size := Nat.le_trans hsz hb122.size
      have HJ := hB122.ints
      generalize g122 = G at HJ hg122 ⊢
      clear hB122 hg122
      clear hb122
      refine wpAnyH_ready (rs := [3, 8]) (by kernel_rfl) (by simp) ?_
      refine AllReadyH.cons rfl (fun K hK => ?_) (AllReadyH.cons rfl (fun K hK => ?_) AllReadyH.nil)
      · skip
        go_simp
        go_at_call 30; refine (toFigure_c hd ht _).mono ?_; rintro e w123 ⟨rfl, hb123⟩
        go_wp2_with fail
        refine hK.out _ _ (⟨Blk.step hb123 hHeld.1, Blk.step hb123 hHeld.2⟩) (fun hHeld => ?_)
        clear hK K
        try simp only [Act.put, List.setIfInBounds_toArray, List.set_cons_zero, List.set_cons_succ]
        replace hbel := Bel.step hb123 hbel
        replace hsz : w12.heap.size ≤ w123.heap.size := Nat.le_trans hsz hb123.size
        replace HJ := Ints.step hb123 HJ
        clear hb123
        refine wpAnyH_ready (rs := [4, 8]) (by kernel_rfl) (by simp) ?_
        refine AllReadyH.cons rfl (fun K hK => ?_) (AllReadyH.cons rfl (fun K hK => ?_) AllReadyH.nil)
        · skip
          go_simp
          go_at_call 31; refine (WidestRange_I _ _ _ _ _ hn hm _ HJ).mono ?_; rintro e w124 ⟨A14, kk14, rfl, hO124, hb124⟩
          go_wp2_with fail
          refine hK.out _ _ (⟨Blk.step hb124 hHeld.1, Blk.step hb124 hHeld.2⟩) (fun hHeld => ?_)
          clear hK K
          try simp only [Act.put, List.setIfInBounds_toArray, List.set_cons_zero, List.set_cons_succ]
          have HO := Own.ge_mono hO124 hsz
          clear hO124
          replace hbel := Bel.step hb124 hbel
          replace hsz : w12.heap.size ≤ w124.heap.size := Nat.le_trans hsz hb124.size
          clear HJ
          clear hb124
          refine wpAnyH_take (i := 5) (v := (.tuple #[.agg #[.int .i64 (wrV R hd ht).ch.dg, .int .i64 (wrV R hd ht).ch.tn, .string (wrV R hd ht).ch.nm, .slice A14 (wrV R hd ht).ch.zs.length kk14, .int .i64 (wrV R hd ht).ch.wd, .int .i64 (wrV R hd ht).ch.lf, .int .i64 (wrV R hd ht).ch.rt, .int .i64 (wrV R hd ht).ad, .int .i64 (wrV R hd ht).at_, .int .i64 (wrV R hd ht).bd, .int .i64 (wrV R hd ht).bt, .int .i64 (wrV R hd ht).cd, .int .i64 (wrV R hd ht).ct, .int .i64 (wrV R hd ht).dd, .int .i64 (wrV R hd ht).dt, .int .i64 (wrV R hd ht).ey, .int .i64 (wrV R hd ht).bo], .int .i64 (wrC R hd ht)])) rfl (by kernel_rfl) (by kernel_rfl) (by kernel_rfl) (fun _ _ _ h => h) (Or.inl ⟨by rfl, fun w _ => by simp [go_sem, execOp]⟩) hHeld ?_
          try simp only [Act.put, List.setIfInBounds_toArray, List.set_cons_zero, List.set_cons_succ]
          refine wpAnyH_take (i := 6) (v := (.agg #[.int .i64 (wrV R hd ht).ch.dg, .int .i64 (wrV R hd ht).ch.tn, .string (wrV R hd ht).ch.nm, .slice A14 (wrV R hd ht).ch.zs.length kk14, .int .i64 (wrV R hd ht).ch.wd, .int .i64 (wrV R hd ht).ch.lf, .int .i64 (wrV R hd ht).ch.rt, .int .i64 (wrV R hd ht).ad, .int .i64 (wrV R hd ht).at_, .int .i64 (wrV R hd ht).bd, .int .i64 (wrV R hd ht).bt, .int .i64 (wrV R hd ht).cd, .int .i64 (wrV R hd ht).ct, .int .i64 (wrV R hd ht).dd, .int .i64 (wrV R hd ht).dt, .int .i64 (wrV R hd ht).ey, .int .i64 (wrV R hd ht).bo])) rfl (by kernel_rfl) (by kernel_rfl) (by kernel_rfl) (fun _ _ _ h => h) (Or.inl ⟨by rfl, fun w _ => by simp [go_sem, execOp]⟩) hHeld ?_
          try simp only [Act.put, List.setIfInBounds_toArray, List.set_cons_zero, List.set_cons_succ]
          refine wpAnyH_take (i := 7) (v := (.int .i64 (wrC R hd ht))) rfl (by kernel_rfl) (by kernel_rfl) (by kernel_rfl) (fun _ _ _ h => h) (Or.inl ⟨by rfl, fun w _ => by simp [go_sem, execOp]⟩) hHeld ?_
          try simp only [Act.put, List.setIfInBounds_toArray, List.set_cons_zero, List.set_cons_succ]
          refine wpAnyH_ready (rs := [8]) (by kernel_rfl) (by simp) ?_
          refine AllReadyH.cons rfl (fun K hK => ?_) AllReadyH.nil
          · skip
            go_simp
            refine hK.out _ _ (⟨Blk.alloc _ hHeld.1, Blk.alloc _ hHeld.2⟩) (fun hHeld => ?_)
            clear hK K
            try simp only [Act.put, List.setIfInBounds_toArray, List.set_cons_zero, List.set_cons_succ]
            have HA := Blk.new w124 55 #[.int .i64 0, .int .i64 0, .string ⟨#[]⟩, .slice none 0 0, .int .i64 0, .int .i64 0, .int .i64 0, .int .i64 0, .int .i64 0, .int .i64 0, .int .i64 0, .int .i64 0, .int .i64 0, .int .i64 0, .int .i64 0, .int .i64 0, .int .i64 0]
            have hlo : w12.heap.size ≤ w124.heap.size := hsz
            replace hbel : Below w12.heap.size w12 (w124.alloc (.cells #[.int .i64 0, .int .i64 0, .string ⟨#[]⟩, .slice none 0 0, .int .i64 0, .int .i64 0, .int .i64 0, .int .i64 0, .int .i64 0, .int .i64 0, .int .i64 0, .int .i64 0, .int .i64 0, .int .i64 0, .int .i64 0, .int .i64 0, .int .i64 0] 55)) := Bel.alloc hbel _
            replace hsz : w12.heap.size ≤ (w124.alloc (.cells #[.int .i64 0, .int .i64 0, .string ⟨#[]⟩, .slice none 0 0, .int .i64 0, .int .i64 0, .int .i64 0, .int .i64 0, .int .i64 0, .int .i64 0, .int .i64 0, .int .i64 0, .int .i64 0, .int .i64 0, .int .i64 0, .int .i64 0, .int .i64 0] 55)).heap.size := by simp only [World.size_alloc]; omega
            have hox : (Value.slice A14 (wrV R hd ht).ch.zs.length kk14).ownBlock ≠ some w124.heap.size := own_btw HO (Or.inr (Nat.le_refl _))
            replace HO := Own.alloc (.cells #[.int .i64 0, .int .i64 0, .string ⟨#[]⟩, .slice none 0 0, .int .i64 0, .int .i64 0, .int .i64 0, .int .i64 0, .int .i64 0, .int .i64 0, .int .i64 0, .int .i64 0, .int .i64 0, .int .i64 0, .int .i64 0, .int .i64 0, .int .i64 0] 55) HO
            generalize (w124.alloc (.cells #[.int .i64 0, .int .i64 0, .string ⟨#[]⟩, .slice none 0 0, .int .i64 0, .int .i64 0, .int .i64 0, .int .i64 0, .int .i64 0, .int .i64 0, .int .i64 0, .int .i64 0, .int .i64 0, .int .i64 0, .int .i64 0, .int .i64 0, .int .i64 0] 55)) = w125 at hHeld hbel hsz HA hlo HO ⊢
            generalize w124.heap.size = a at HA hlo hox ⊢
            have hall := And.intro hHeld (And.intro hbel (And.intro HA (And.intro hlo (And.intro HO hox))))
            clear hsz hHeld hbel HA hlo HO hox
            revert hall
            revert w125 a G A14 kk14
            exact key.out
        · skip
          go_simp
          refine hK.out _ _ (⟨Blk.alloc _ hHeld.1, Blk.alloc _ hHeld.2⟩) (fun hHeld => ?_)
          clear hK K
          try simp only [Act.put, List.setIfInBounds_toArray, List.set_cons_zero, List.set_cons_succ]
          have HA := Blk.new w123 55 #[.int .i64 0, .int .i64 0, .string ⟨#[]⟩, .slice none 0 0, .int .i64 0, .int .i64 0, .int .i64 0, .int .i64 0, .int .i64 0, .int .i64 0, .int .i64 0, .int .i64 0, .int .i64 0, .int .i64 0, .int .i64 0, .int .i64 0, .int .i64 0]
          have hlo : w12.heap.size ≤ w123.heap.size := hsz
          replace hbel : Below w12.heap.size w12 (w123.alloc (.cells #[.int .i64 0, .int .i64 0, .string ⟨#[]⟩, .slice none 0 0, .int .i64 0, .int .i64 0, .int .i64 0, .int .i64 0, .int .i64 0, .int .i64 0, .int .i64 0, .int .i64 0, .int .i64 0, .int .i64 0, .int .i64 0, .int .i64 0, .int .i64 0] 55)) := Bel.alloc hbel _
          replace hsz : w12.heap.size ≤ (w123.alloc (.cells #[.int .i64 0, .int .i64 0, .string ⟨#[]⟩, .slice none 0 0, .int .i64 0, .int .i64 0, .int .i64 0, .int .i64 0, .int .i64 0, .int .i64 0, .int .i64 0, .int .i64 0, .int .i64 0, .int .i64 0, .int .i64 0, .int .i64 0, .int .i64 0] 55)).heap.size := by simp only [World.size_alloc]; omega
          replace HJ := Ints.alloc (.cells #[.int .i64 0, .int .i64 0, .string ⟨#[]⟩, .slice none 0 0, .int .i64 0, .int .i64 0, .int .i64 0, .int .i64 0, .int .i64 0, .int .i64 0, .int .i64 0, .int .i64 0, .int .i64 0, .int .i64 0, .int .i64 0, .int .i64 0, .int .i64 0] 55) HJ
          generalize (w123.alloc (.cells #[.int .i64 0, .int .i64 0, .string ⟨#[]⟩, .slice none 0 0, .int .i64 0, .int .i64 0, .int .i64 0, .int .i64 0, .int .i64 0, .int .i64 0, .int .i64 0, .int .i64 0, .int .i64 0, .int .i64 0, .int .i64 0, .int .i64 0, .int .i64 0] 55)) = w126 at hHeld hbel hsz HA hlo HJ ⊢
          generalize w123.heap.size = a at HA hlo ⊢
          refine wpAnyH_ready (rs := [4]) (by kernel_rfl) (by simp) ?_
          refine AllReadyH.cons rfl (fun K hK => ?_) AllReadyH.nil
          · skip
            have hlt := HA.lt
            go_simp
            go_at_call 31; refine (WidestRange_I _ _ _ _ _ hn hm _ HJ).mono ?_; rintro e w127 ⟨A14, kk14, rfl, hO127, hb127⟩
            go_wp2_with fail
            refine hK.out _ _ (⟨Blk.step hb127 hHeld.1, Blk.step hb127 hHeld.2⟩) (fun hHeld => ?_)
            clear hK K
            try simp only [Act.put, List.setIfInBounds_toArray, List.set_cons_zero, List.set_cons_succ]
            have HO := Own.ge_mono hO127 hsz
            have hox : (Value.slice A14 (wrV R hd ht).ch.zs.length kk14).ownBlock ≠ some a := own_btw hO127 (Or.inl hlt)
            clear hO127
            replace hbel := Bel.step hb127 hbel
            replace hsz : w12.heap.size ≤ w127.heap.size := Nat.le_trans hsz hb127.size
            replace HA := Blk.step hb127 HA
            clear hlt
            clear HJ
            clear hb127
            refine wpAnyH_take (i := 5) (v := (.tuple #[.agg #[.int .i64 (wrV R hd ht).ch.dg, .int .i64 (wrV R hd ht).ch.tn, .string (wrV R hd ht).ch.nm, .slice A14 (wrV R hd ht).ch.zs.length kk14, .int .i64 (wrV R hd ht).ch.wd, .int .i64 (wrV R hd ht).ch.lf, .int .i64 (wrV R hd ht).ch.rt, .int .i64 (wrV R hd ht).ad, .int .i64 (wrV R hd ht).at_, .int .i64 (wrV R hd ht).bd, .int .i64 (wrV R hd ht).bt, .int .i64 (wrV R hd ht).cd, .int .i64 (wrV R hd ht).ct, .int .i64 (wrV R hd ht).dd, .int .i64 (wrV R hd ht).dt, .int .i64 (wrV R hd ht).ey, .int .i64 (wrV R hd ht).bo], .int .i64 (wrC R hd ht)])) rfl (by kernel_rfl) (by kernel_rfl) (by kernel_rfl) (fun _ _ _ h => h) (Or.inl ⟨by rfl, fun w _ => by simp [go_sem, execOp]⟩) hHeld ?_
            try simp only [Act.put, List.setIfInBounds_toArray, List.set_cons_zero, List.set_cons_succ]
            refine wpAnyH_take (i := 6) (v := (.agg #[.int .i64 (wrV R hd ht).ch.dg, .int .i64 (wrV R hd ht).ch.tn, .string (wrV R hd ht).ch.nm, .slice A14 (wrV R hd ht).ch.zs.length kk14, .int .i64 (wrV R hd ht).ch.wd, .int .i64 (wrV R hd ht).ch.lf, .int .i64 (wrV R hd ht).ch.rt, .int .i64 (wrV R hd ht).ad, .int .i64 (wrV R hd ht).at_, .int .i64 (wrV R hd ht).bd, .int .i64 (wrV R hd ht).bt, .int .i64 (wrV R hd ht).cd, .int .i64 (wrV R hd ht).ct, .int .i64 (wrV R hd ht).dd, .int .i64 (wrV R hd ht).dt, .int .i64 (wrV R hd ht).ey, .int .i64 (wrV R hd ht).bo])) rfl (by kernel_rfl) (by kernel_rfl) (by kernel_rfl) (fun _ _ _ h => h) (Or.inl ⟨by rfl, fun w _ => by simp [go_sem, execOp]⟩) hHeld ?_
            try simp only [Act.put, List.setIfInBounds_toArray, List.set_cons_zero, List.set_cons_succ]
            refine wpAnyH_take (i := 7) (v := (.int .i64 (wrC R hd ht))) rfl (by kernel_rfl) (by kernel_rfl) (by kernel_rfl) (fun _ _ _ h => h) (Or.inl ⟨by rfl, fun w _ => by simp [go_sem, execOp]⟩) hHeld ?_
            try simp only [Act.put, List.setIfInBounds_toArray, List.set_cons_zero, List.set_cons_succ]
            exact key.out _ _ _ _ _ (And.intro hHeld (And.intro hbel (And.intro HA (And.intro hlo (And.intro HO hox)))))
      · skip
        go_simp
        refine hK.out _ _ (⟨Blk.alloc _ hHeld.1, Blk.alloc _ hHeld.2⟩) (fun hHeld => ?_)
        clear hK K
        try simp only [Act.put, List.setIfInBounds_toArray, List.set_cons_zero, List.set_cons_succ]
        have HA := Blk.new w122 55 #[.int .i64 0, .int .i64 0, .string ⟨#[]⟩, .slice none 0 0, .int .i64 0, .int .i64 0, .int .i64 0, .int .i64 0, .int .i64 0, .int .i64 0, .int .i64 0, .int .i64 0, .int .i64 0, .int .i64 0, .int .i64 0, .int .i64 0, .int .i64 0]
        have hlo : w12.heap.size ≤ w122.heap.size := hsz
        replace hbel : Below w12.heap.size w12 (w122.alloc (.cells #[.int .i64 0, .int .i64 0, .string ⟨#[]⟩, .slice none 0 0, .int .i64 0, .int .i64 0, .int .i64 0, .int .i64 0, .int .i64 0, .int .i64 0, .int .i64 0, .int .i64 0, .int .i64 0, .int .i64 0, .int .i64 0, .int .i64 0, .int .i64 0] 55)) := Bel.alloc hbel _
        replace hsz : w12.heap.size ≤ (w122.alloc (.cells #[.int .i64 0, .int .i64 0, .string ⟨#[]⟩, .slice none 0 0, .int .i64 0, .int .i64 0, .int .i64 0, .int .i64 0, .int .i64 0, .int .i64 0, .int .i64 0, .int .i64 0, .int .i64 0, .int .i64 0, .int .i64 0, .int .i64 0, .int .i64 0] 55)).heap.size := by simp only [World.size_alloc]; omega
        replace HJ := Ints.alloc (.cells #[.int .i64 0, .int .i64 0, .string ⟨#[]⟩, .slice none 0 0, .int .i64 0, .int .i64 0, .int .i64 0, .int .i64 0, .int .i64 0, .int .i64 0, .int .i64 0, .int .i64 0, .int .i64 0, .int .i64 0, .int .i64 0, .int .i64 0, .int .i64 0] 55) HJ
        generalize (w122.alloc (.cells #[.int .i64 0, .int .i64 0, .string ⟨#[]⟩, .slice none 0 0, .int .i64 0, .int .i64 0, .int .i64 0, .int .i64 0, .int .i64 0, .int .i64 0, .int .i64 0, .int .i64 0, .int .i64 0, .int .i64 0, .int .i64 0, .int .i64 0, .int .i64 0] 55)) = w128 at hHeld hbel hsz HA hlo HJ ⊢
        generalize w122.heap.size = a at HA hlo ⊢
        refine wpAnyH_ready (rs := [3]) (by kernel_rfl) (by simp) ?_
        refine AllReadyH.cons rfl (fun K hK => ?_) AllReadyH.nil
        · skip
          have hlt := HA.lt
          go_simp
          go_at_call 30; refine (toFigure_c hd ht _).mono ?_; rintro e w129 ⟨rfl, hb129⟩
          go_wp2_with fail
          refine hK.out _ _ (⟨Blk.step hb129 hHeld.1, Blk.step hb129 hHeld.2⟩) (fun hHeld => ?_)
          clear hK K
          try simp only [Act.put, List.setIfInBounds_toArray, List.set_cons_zero, List.set_cons_succ]
          replace hbel := Bel.step hb129 hbel
          replace hsz : w12.heap.size ≤ w129.heap.size := Nat.le_trans hsz hb129.size
          replace HA := Blk.step hb129 HA
          clear hlt
          replace HJ := Ints.step hb129 HJ
          clear hb129
          refine wpAnyH_ready (rs := [4]) (by kernel_rfl) (by simp) ?_
          refine AllReadyH.cons rfl (fun K hK => ?_) AllReadyH.nil
          · skip
            have hlt := HA.lt
            go_simp
            go_at_call 31; refine (WidestRange_I _ _ _ _ _ hn hm _ HJ).mono ?_; rintro e w130 ⟨A14, kk14, rfl, hO130, hb130⟩
            go_wp2_with fail
            refine hK.out _ _ (⟨Blk.step hb130 hHeld.1, Blk.step hb130 hHeld.2⟩) (fun hHeld => ?_)
            clear hK K
            try simp only [Act.put, List.setIfInBounds_toArray, List.set_cons_zero, List.set_cons_succ]
            have HO := Own.ge_mono hO130 hsz
            have hox : (Value.slice A14 (wrV R hd ht).ch.zs.length kk14).ownBlock ≠ some a := own_btw hO130 (Or.inl hlt)
            clear hO130
            replace hbel := Bel.step hb130 hbel
            replace hsz : w12.heap.size ≤ w130.heap.size := Nat.le_trans hsz hb130.size
            replace HA := Blk.step hb130 HA
            clear hlt
            clear HJ
            clear hb130
            refine wpAnyH_take (i := 5) (v := (.tuple #[.agg #[.int .i64 (wrV R hd ht).ch.dg, .int .i64 (wrV R hd ht).ch.tn, .string (wrV R hd ht).ch.nm, .slice A14 (wrV R hd ht).ch.zs.length kk14, .int .i64 (wrV R hd ht).ch.wd, .int .i64 (wrV R hd ht).ch.lf, .int .i64 (wrV R hd ht).ch.rt, .int .i64 (wrV R hd ht).ad, .int .i64 (wrV R hd ht).at_, .int .i64 (wrV R hd ht).bd, .int .i64 (wrV R hd ht).bt, .int .i64 (wrV R hd ht).cd, .int .i64 (wrV R hd ht).ct, .int .i64 (wrV R hd ht).dd, .int .i64 (wrV R hd ht).dt, .int .i64 (wrV R hd ht).ey, .int .i64 (wrV R hd ht).bo], .int .i64 (wrC R hd ht)])) rfl (by kernel_rfl) (by kernel_rfl) (by kernel_rfl) (fun _ _ _ h => h) (Or.inl ⟨by rfl, fun w _ => by simp [go_sem, execOp]⟩) hHeld ?_
            try simp only [Act.put, List.setIfInBounds_toArray, List.set_cons_zero, List.set_cons_succ]
            refine wpAnyH_take (i := 6) (v := (.agg #[.int .i64 (wrV R hd ht).ch.dg, .int .i64 (wrV R hd ht).ch.tn, .string (wrV R hd ht).ch.nm, .slice A14 (wrV R hd ht).ch.zs.length kk14, .int .i64 (wrV R hd ht).ch.wd, .int .i64 (wrV R hd ht).ch.lf, .int .i64 (wrV R hd ht).ch.rt, .int .i64 (wrV R hd ht).ad, .int .i64 (wrV R hd ht).at_, .int .i64 (wrV R hd ht).bd, .int .i64 (wrV R hd ht).bt, .int .i64 (wrV R hd ht).cd, .int .i64 (wrV R hd ht).ct, .int .i64 (wrV R hd ht).dd, .int .i64 (wrV R hd ht).dt, .int .i64 (wrV R hd ht).ey, .int .i64 (wrV R hd ht).bo])) rfl (by kernel_rfl) (by kernel_rfl) (by kernel_rfl) (fun _ _ _ h => h) (Or.inl ⟨by rfl, fun w _ => by simp [go_sem, execOp]⟩) hHeld ?_
            try simp only [Act.put, List.setIfInBounds_toArray, List.set_cons_zero, List.set_cons_succ]
            refine wpAnyH_take (i := 7) (v := (.int .i64 (wrC R hd ht))) rfl (by kernel_rfl) (by kernel_rfl) (by kernel_rfl) (fun _ _ _ h => h) (Or.inl ⟨by rfl, fun w _ => by simp [go_sem, execOp]⟩) hHeld ?_
            try simp only [Act.put, List.setIfInBounds_toArray, List.set_cons_zero, List.set_cons_succ]
            exact key.out _ _ _ _ _ (And.intro hHeld (And.intro hbel (And.intro HA (And.intro hlo (And.intro HO hox)))))
    · skip
      go_simp
      refine hK.out _ _ (⟨Blk.alloc _ hHeld.1, Blk.alloc _ hHeld.2⟩) (fun hHeld => ?_)
      clear hK K
      try simp only [Act.put, List.setIfInBounds_toArray, List.set_cons_zero, List.set_cons_succ]
      have HA := Blk.new wA 55 #[.int .i64 0, .int .i64 0, .string ⟨#[]⟩, .slice none 0 0, .int .i64 0, .int .i64 0, .int .i64 0, .int .i64 0, .int .i64 0, .int .i64 0, .int .i64 0, .int .i64 0, .int .i64 0, .int .i64 0, .int .i64 0, .int .i64 0, .int .i64 0]
      have hlo : w12.heap.size ≤ wA.heap.size := hsz
      replace hbel : Below w12.heap.size w12 (wA.alloc (.cells #[.int .i64 0, .int .i64 0, .string ⟨#[]⟩, .slice none 0 0, .int .i64 0, .int .i64 0, .int .i64 0, .int .i64 0, .int .i64 0, .int .i64 0, .int .i64 0, .int .i64 0, .int .i64 0, .int .i64 0, .int .i64 0, .int .i64 0, .int .i64 0] 55)) := Bel.alloc hbel _
      replace hsz : w12.heap.size ≤ (wA.alloc (.cells #[.int .i64 0, .int .i64 0, .string ⟨#[]⟩, .slice none 0 0, .int .i64 0, .int .i64 0, .int .i64 0, .int .i64 0, .int .i64 0, .int .i64 0, .int .i64 0, .int .i64 0, .int .i64 0, .int .i64 0, .int .i64 0, .int .i64 0, .int .i64 0] 55)).heap.size := by simp only [World.size_alloc]; omega
      generalize (wA.alloc (.cells #[.int .i64 0, .int .i64 0, .string ⟨#[]⟩, .slice none 0 0, .int .i64 0, .int .i64 0, .int .i64 0, .int .i64 0, .int .i64 0, .int .i64 0, .int .i64 0, .int .i64 0, .int .i64 0, .int .i64 0, .int .i64 0, .int .i64 0, .int .i64 0] 55)) = w131 at hHeld hbel hsz HA hlo ⊢
      generalize wA.heap.size = a at HA hlo ⊢
      refine wpAnyH_ready (rs := [1]) (by kernel_rfl) (by simp) ?_
      refine AllReadyH.cons rfl (fun K hK => ?_) AllReadyH.nil
      · skip
        have hlt := HA.lt
        go_simp
        go_at_call 29; refine (toRelease_c _ _ _ hn _ (Ints.step hbel HI12)).mono ?_; rintro e w132 ⟨g132, rfl, hg132, hB132, hb132⟩
        go_wp2_with fail
        refine hK.out _ _ (⟨Blk.step hb132 hHeld.1, Blk.step hb132 hHeld.2⟩) (fun hHeld => ?_)
        clear hK K
        try simp only [Act.put, List.setIfInBounds_toArray, List.set_cons_zero, List.set_cons_succ]
        replace hbel := Bel.step hb132 hbel
        replace hsz : w12.heap.size ≤ w132.heap.size := Nat.le_trans hsz hb132.size
        replace HA := Blk.step hb132 HA
        clear hlt
        have HJ := hB132.ints
        generalize g132 = G at HJ hg132 ⊢
        clear hB132 hg132
        clear hb132
        refine wpAnyH_ready (rs := [3]) (by kernel_rfl) (by simp) ?_
        refine AllReadyH.cons rfl (fun K hK => ?_) AllReadyH.nil
        · skip
          have hlt := HA.lt
          go_simp
          go_at_call 30; refine (toFigure_c hd ht _).mono ?_; rintro e w133 ⟨rfl, hb133⟩
          go_wp2_with fail
          refine hK.out _ _ (⟨Blk.step hb133 hHeld.1, Blk.step hb133 hHeld.2⟩) (fun hHeld => ?_)
          clear hK K
          try simp only [Act.put, List.setIfInBounds_toArray, List.set_cons_zero, List.set_cons_succ]
          replace hbel := Bel.step hb133 hbel
          replace hsz : w12.heap.size ≤ w133.heap.size := Nat.le_trans hsz hb133.size
          replace HA := Blk.step hb133 HA
          clear hlt
          replace HJ := Ints.step hb133 HJ
          clear hb133
          refine wpAnyH_ready (rs := [4]) (by kernel_rfl) (by simp) ?_
          refine AllReadyH.cons rfl (fun K hK => ?_) AllReadyH.nil
          · skip
            have hlt := HA.lt
            go_simp
            go_at_call 31; refine (WidestRange_I _ _ _ _ _ hn hm _ HJ).mono ?_; rintro e w134 ⟨A14, kk14, rfl, hO134, hb134⟩
            go_wp2_with fail
            refine hK.out _ _ (⟨Blk.step hb134 hHeld.1, Blk.step hb134 hHeld.2⟩) (fun hHeld => ?_)
            clear hK K
            try simp only [Act.put, List.setIfInBounds_toArray, List.set_cons_zero, List.set_cons_succ]
            have HO := Own.ge_mono hO134 hsz
            have hox : (Value.slice A14 (wrV R hd ht).ch.zs.length kk14).ownBlock ≠ some a := own_btw hO134 (Or.inl hlt)
            clear hO134
            replace hbel := Bel.step hb134 hbel
            replace hsz : w12.heap.size ≤ w134.heap.size := Nat.le_trans hsz hb134.size
            replace HA := Blk.step hb134 HA
            clear hlt
            clear HJ
            clear hb134
            refine wpAnyH_take (i := 5) (v := (.tuple #[.agg #[.int .i64 (wrV R hd ht).ch.dg, .int .i64 (wrV R hd ht).ch.tn, .string (wrV R hd ht).ch.nm, .slice A14 (wrV R hd ht).ch.zs.length kk14, .int .i64 (wrV R hd ht).ch.wd, .int .i64 (wrV R hd ht).ch.lf, .int .i64 (wrV R hd ht).ch.rt, .int .i64 (wrV R hd ht).ad, .int .i64 (wrV R hd ht).at_, .int .i64 (wrV R hd ht).bd, .int .i64 (wrV R hd ht).bt, .int .i64 (wrV R hd ht).cd, .int .i64 (wrV R hd ht).ct, .int .i64 (wrV R hd ht).dd, .int .i64 (wrV R hd ht).dt, .int .i64 (wrV R hd ht).ey, .int .i64 (wrV R hd ht).bo], .int .i64 (wrC R hd ht)])) rfl (by kernel_rfl) (by kernel_rfl) (by kernel_rfl) (fun _ _ _ h => h) (Or.inl ⟨by rfl, fun w _ => by simp [go_sem, execOp]⟩) hHeld ?_
            try simp only [Act.put, List.setIfInBounds_toArray, List.set_cons_zero, List.set_cons_succ]
            refine wpAnyH_take (i := 6) (v := (.agg #[.int .i64 (wrV R hd ht).ch.dg, .int .i64 (wrV R hd ht).ch.tn, .string (wrV R hd ht).ch.nm, .slice A14 (wrV R hd ht).ch.zs.length kk14, .int .i64 (wrV R hd ht).ch.wd, .int .i64 (wrV R hd ht).ch.lf, .int .i64 (wrV R hd ht).ch.rt, .int .i64 (wrV R hd ht).ad, .int .i64 (wrV R hd ht).at_, .int .i64 (wrV R hd ht).bd, .int .i64 (wrV R hd ht).bt, .int .i64 (wrV R hd ht).cd, .int .i64 (wrV R hd ht).ct, .int .i64 (wrV R hd ht).dd, .int .i64 (wrV R hd ht).dt, .int .i64 (wrV R hd ht).ey, .int .i64 (wrV R hd ht).bo])) rfl (by kernel_rfl) (by kernel_rfl) (by kernel_rfl) (fun _ _ _ h => h) (Or.inl ⟨by rfl, fun w _ => by simp [go_sem, execOp]⟩) hHeld ?_
            try simp only [Act.put, List.setIfInBounds_toArray, List.set_cons_zero, List.set_cons_succ]
            refine wpAnyH_take (i := 7) (v := (.int .i64 (wrC R hd ht))) rfl (by kernel_rfl) (by kernel_rfl) (by kernel_rfl) (fun _ _ _ h => h) (Or.inl ⟨by rfl, fun w _ => by simp [go_sem, execOp]⟩) hHeld ?_
            try simp only [Act.put, List.setIfInBounds_toArray, List.set_cons_zero, List.set_cons_succ]
            exact key.out _ _ _ _ _ (And.intro hHeld (And.intro hbel (And.intro HA (And.intro hlo (And.intro HO hox)))))
  intro G A14 kk14 W y ⟨hHeld, hbel, HX, hlo, HO, hox⟩
  refine wpAnyH_ready (rs := [9]) (by kernel_rfl) (by simp) ?_
  refine AllReadyH.cons rfl (fun K hK => ?_) AllReadyH.nil
  refine step_store_blk (cs := #[.int .i64 (wrV R hd ht).ch.dg, .int .i64 (wrV R hd ht).ch.tn, .string (wrV R hd ht).ch.nm, .slice A14 (wrV R hd ht).ch.zs.length kk14, .int .i64 (wrV R hd ht).ch.wd, .int .i64 (wrV R hd ht).ch.lf, .int .i64 (wrV R hd ht).ch.rt, .int .i64 (wrV R hd ht).ad, .int .i64 (wrV R hd ht).at_, .int .i64 (wrV R hd ht).bd, .int .i64 (wrV R hd ht).bt, .int .i64 (wrV R hd ht).cd, .int .i64 (wrV R hd ht).ct, .int .i64 (wrV R hd ht).dd, .int .i64 (wrV R hd ht).dt, .int .i64 (wrV R hd ht).ey, .int .i64 (wrV R hd ht).bo]) 55 _ _ y HX (by kernel_rfl) rfl (by simp [Value.oneCell']) rfl rfl rfl rfl rfl ?_
  refine hK.out _ _ ⟨Blk.setRow_far _ (by omega) hHeld.1, Blk.setRow_far _ (by omega) hHeld.2⟩ (fun hHeld => ?_)
  clear hK K
  try simp only [Act.put, List.setIfInBounds_toArray, List.set_cons_zero, List.set_cons_succ]
  replace HX := Blk.setRow #[.int .i64 (wrV R hd ht).ch.dg, .int .i64 (wrV R hd ht).ch.tn, .string (wrV R hd ht).ch.nm, .slice A14 (wrV R hd ht).ch.zs.length kk14, .int .i64 (wrV R hd ht).ch.wd, .int .i64 (wrV R hd ht).ch.lf, .int .i64 (wrV R hd ht).ch.rt, .int .i64 (wrV R hd ht).ad, .int .i64 (wrV R hd ht).at_, .int .i64 (wrV R hd ht).bd, .int .i64 (wrV R hd ht).bt, .int .i64 (wrV R hd ht).cd, .int .i64 (wrV R hd ht).ct, .int .i64 (wrV R hd ht).dd, .int .i64 (wrV R hd ht).dt, .int .i64 (wrV R hd ht).ey, .int .i64 (wrV R hd ht).bo] HX
  replace HO := Own.kept HO (grown_setRow W y #[.int .i64 (wrV R hd ht).ch.dg, .int .i64 (wrV R hd ht).ch.tn, .string (wrV R hd ht).ch.nm, .slice A14 (wrV R hd ht).ch.zs.length kk14, .int .i64 (wrV R hd ht).ch.wd, .int .i64 (wrV R hd ht).ch.lf, .int .i64 (wrV R hd ht).ch.rt, .int .i64 (wrV R hd ht).ad, .int .i64 (wrV R hd ht).at_, .int .i64 (wrV R hd ht).bd, .int .i64 (wrV R hd ht).bt, .int .i64 (wrV R hd ht).cd, .int .i64 (wrV R hd ht).ct, .int .i64 (wrV R hd ht).dd, .int .i64 (wrV R hd ht).dt, .int .i64 (wrV R hd ht).ey, .int .i64 (wrV R hd ht).bo]) (.inr hox)
  replace hbel := Bel.setRow hbel hlo #[.int .i64 (wrV R hd ht).ch.dg, .int .i64 (wrV R hd ht).ch.tn, .string (wrV R hd ht).ch.nm, .slice A14 (wrV R hd ht).ch.zs.length kk14, .int .i64 (wrV R hd ht).ch.wd, .int .i64 (wrV R hd ht).ch.lf, .int .i64 (wrV R hd ht).ch.rt, .int .i64 (wrV R hd ht).ad, .int .i64 (wrV R hd ht).at_, .int .i64 (wrV R hd ht).bd, .int .i64 (wrV R hd ht).bt, .int .i64 (wrV R hd ht).cd, .int .i64 (wrV R hd ht).ct, .int .i64 (wrV R hd ht).dd, .int .i64 (wrV R hd ht).dt, .int .i64 (wrV R hd ht).ey, .int .i64 (wrV R hd ht).bo]
  generalize W.setRow y #[.int .i64 (wrV R hd ht).ch.dg, .int .i64 (wrV R hd ht).ch.tn, .string (wrV R hd ht).ch.nm, .slice A14 (wrV R hd ht).ch.zs.length kk14, .int .i64 (wrV R hd ht).ch.wd, .int .i64 (wrV R hd ht).ch.lf, .int .i64 (wrV R hd ht).ch.rt, .int .i64 (wrV R hd ht).ad, .int .i64 (wrV R hd ht).at_, .int .i64 (wrV R hd ht).bd, .int .i64 (wrV R hd ht).bt, .int .i64 (wrV R hd ht).cd, .int .i64 (wrV R hd ht).ct, .int .i64 (wrV R hd ht).dd, .int .i64 (wrV R hd ht).dt, .int .i64 (wrV R hd ht).ey, .int .i64 (wrV R hd ht).bo] = W at hHeld hbel HX HO ⊢
  refine wpAnyH_take (i := 10) (v := (.int .i64 (wrC R hd ht))) rfl (by kernel_rfl) (by kernel_rfl) (by kernel_rfl) (fun _ _ _ h => h) (Or.inl ⟨by rfl, fun w _ => by simp [go_sem, execOp]⟩) hHeld ?_
  simp only [Act.put, List.getElem_toArray, List.getElem_cons_succ, List.getElem_cons_zero, List.setIfInBounds_toArray, List.set_cons_zero, List.set_cons_succ]
  refine wpAnyH_done (by kernel_rfl) ?_ _
  clear hHeld
  have hS15 := SR.step hbel hS12
  clear hS12 hbel hox hlo HF12 HI12 HB12
  go_wp2_with (first | (refine wpList_load_blkG 55 _ _ HX Try.underlying55 (by kernel_rfl) rfl rfl (by rfl) ?_) | (refine wpList_load_blkG 55 _ _ hS15.want Try.underlying55 (by kernel_rfl) rfl rfl (by rfl) ?_))
  go_at_call 32; refine (eqRelease_c (wrV R hd ht) _ _ _ _ hdl _ HO.ints hS15.own3.ints).mono ?_; rintro e w16 ⟨rfl, hb16⟩
  have hS16 := SR.step hb16 hS15
  clear hS15 hb16
  go_wp2_with (refine wpList_load_blkG 55 _ _ hS16.got Try.underlying55 (by kernel_rfl) rfl rfl (by rfl) ?_)
  refine (heldRelease_c (wrV R hd ht) _ _ _ (wrV R hd ht).ch.zs.length _ 1 (by omega) (by omega) (by omega) _ hS16.own5).mono ?_; rintro e w17 ⟨rfl, hb17⟩
  have hS17 := SR.step hb17 hS16
  go_wp2
  go_ret
  exact ⟨rfl, hS17.bel⟩
end Go.Proofs.Ytkhcepkcdfpofaa
