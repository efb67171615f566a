/- The statement FnExactReadRelease, walked. No conditions. -/
import Derived.Test.YtkhcepkcdfpofaaProg
import Derived.Test.YtkhcepkcdfpofaaBase
import Derived.Test.YtkhcepkcdfpofaaRw
import Derived.Test.YtkhcepkcdfpofaaRg
import Derived.Test.YtkhcepkcdfpofaaRp
import Derived.Test.YtkhcepkcdfpofaaL01
import Derived.Test.YtkhcepkcdfpofaaCp
import Derived.Test.YtkhcepkcdfpofaaCh
import Derived.Test.YtkhcepkcdfpofaaL18
import Derived.Test.YtkhcepkcdfpofaaL18c
import Derived.Test.YtkhcepkcdfpofaaW23
import Derived.Test.YtkhcepkcdfpofaaL23
import Derived.Test.YtkhcepkcdfpofaaL03
import Derived.Test.YtkhcepkcdfpofaaL04
import Derived.Test.YtkhcepkcdfpofaaL23d
import Derived.Test.YtkhcepkcdfpofaaL23e
import Derived.Test.YtkhcepkcdfpofaaL23f
import Derived.Test.YtkhcepkcdfpofaaL24
import Derived.Test.YtkhcepkcdfpofaaL24b
import Derived.Test.YtkhcepkcdfpofaaL24c
import Derived.Test.YtkhcepkcdfpofaaL24d
import Derived.Test.YtkhcepkcdfpofaaL24f
import Derived.Test.YtkhcepkcdfpofaaL24g
import Derived.Test.YtkhcepkcdfpofaaL24r
import Derived.Test.YtkhcepkcdfpofaaL23g
import Derived.Test.YtkhcepkcdfpofaaL23h
import Derived.Test.YtkhcepkcdfpofaaL27o
import Derived.Test.YtkhcepkcdfpofaaL27a
import Derived.Test.YtkhcepkcdfpofaaL27b
import Derived.Test.YtkhcepkcdfpofaaL27c
import Derived.Test.YtkhcepkcdfpofaaL27m
import Derived.Test.YtkhcepkcdfpofaaL27t
import Derived.Test.YtkhcepkcdfpofaaL27u
import Derived.WalkKit
import Derived.WalkSpells
import Derived.WalkLawsBesides
import Derived.Lib.Hide
import Derived.Deep.QuietTactic
import Derived.BigQuiet
import Derived.Deep.Draws
import Derived.Deep.RegionHeld3
import Derived.Deep.Cut
import Derived.Deep.WholeRow
namespace Go.Proofs.Ytkhcepkcdfpofaa
open Go.RowKit
set_option linter.unusedVariables false
set_option linter.unusedSimpArgs false
/-- A fact that the walk does not look into. -/
structure BoxRr (P : Prop) : Prop where
  out : P
theorem cut_Rr {G : Prop} (P : Prop) (k : BoxRr P → G) (h : P) : G := k ⟨h⟩
set_option maxRecDepth 50000 in
set_option maxHeartbeats 40000000 in
theorem FnExactReadRelease_w (w : World) (R : Re) (A : Option Addr) (c : Nat) (hl : R.ch.zs.length ≤ 9223372036854775807) (hA : Ints w A R.ch.zs) (hs : R.ch.nm.size ≤ 9223372036854775807) (ud ut : Int) (gud : (Lit.int .i64 ud).wf = true) (gut : (Lit.int .i64 ut).wf = true) (vd vt : Int) (gvd : (Lit.int .i64 vd).wf = true) (gvt : (Lit.int .i64 vt).wf = true) :
    Calls Try.prog 10 #[.agg #[.int .i64 R.ch.dg, .int .i64 R.ch.tn, .string R.ch.nm, .slice A R.ch.zs.length c, .int .i64 R.ch.wd, .int .i64 R.ch.lf, .int .i64 R.ch.rt, .int .i64 R.ad, .int .i64 R.at_, .int .i64 R.bd, .int .i64 R.bt, .int .i64 R.cd, .int .i64 R.ct, .int .i64 R.dd, .int .i64 R.dt, .int .i64 R.ey, .int .i64 R.bo], .agg #[.int .i64 ud, .int .i64 ut], .agg #[.int .i64 vd, .int .i64 vt]] w fun e w' => e = .returned (.bool true) ∧ Below w.heap.size w w' := by
  by_cases hz : R.ch.nm.size + R.ch.zs.length ≤ 1048576
  rotate_left
  · have HZ := Lib.hid (sz2_no hz)
    go_enter Try.func10, Try.ntmps10
    go_wp2_with fail
    go_at_call 27; refine (szRelease_c _ _ _ _ (by omega) (by omega) (by assumption) (by assumption) _).mono ?_; rintro e w1 ⟨rfl, hb1⟩; obtain ⟨hc1, hf1, hz1⟩ := bel hb1; (try simp only [World.size_drew, World.cell?_drew, World.frozen?_drew] at hc1 hf1 hz1); (try simp only [World.heap_drewN, World.cell?_drewN, World.frozen?_drewN] at hc1 hf1 hz1); (try have hl1 : w.heap.size < w1.heap.size := by (have hq := hb1.size; (try simp at hq); omega)); (try have hm1 : w.heap.size + 1 < w1.heap.size := by (have hq := hb1.size; (try simp at hq); omega)); (try have hn1 : w.heap.size + 1 + 1 < w1.heap.size := by (have hq := hb1.size; (try simp at hq); omega)); (try have hp1 : b < w1.heap.size := by (have hq := hb1.size; (try simp at hq); omega)); (try have ho1 : b' < w1.heap.size := by (have hq := hb1.size; (try simp at hq); omega))
    rw [HZ.out]
    go_wp2
    go_ret
    exact ⟨rfl, by repeat (with_reducible first | exact Below.refl _ _ | assumption | refine Bel.alloc ?_ _ | refine Bel.step (by assumption) ?_ | refine Below.drew ?_ | refine Bel.drewN ?_ _ | refine Below.setCell ?_ (by first | exact Nat.le_refl _ | omega | (simp; done) | (simp; omega)) _)⟩
  have HZ := Lib.hid (sz2_ok hz)
  have hn : R.ch.zs.length ≤ 1048576 := by omega
  have hm : R.ch.nm.size ≤ 1048576 := by omega
  have hn0 : (0 : Int) ≤ 1048576 - R.ch.nm.size - R.ch.zs.length := by omega
  clear hz
  go_enter Try.func10, Try.ntmps10
  go_wp2_with fail
  go_at_call 27; refine (szRelease_c _ _ _ _ (by omega) (by omega) (by assumption) (by assumption) _).mono ?_; rintro e w1 ⟨rfl, hb1⟩; obtain ⟨hc1, hf1, hz1⟩ := bel hb1; (try simp only [World.size_drew, World.cell?_drew, World.frozen?_drew] at hc1 hf1 hz1); (try simp only [World.heap_drewN, World.cell?_drewN, World.frozen?_drewN] at hc1 hf1 hz1); (try have hl1 : w.heap.size < w1.heap.size := by (have hq := hb1.size; (try simp at hq); omega)); (try have hm1 : w.heap.size + 1 < w1.heap.size := by (have hq := hb1.size; (try simp at hq); omega)); (try have hn1 : w.heap.size + 1 + 1 < w1.heap.size := by (have hq := hb1.size; (try simp at hq); omega)); (try have hp1 : b < w1.heap.size := by (have hq := hb1.size; (try simp at hq); omega)); (try have ho1 : b' < w1.heap.size := by (have hq := hb1.size; (try simp at hq); omega))
  rw [HZ.out]
  have hbel1 : Below w.heap.size w w1 := by repeat (with_reducible first | exact Below.refl _ _ | assumption | refine Bel.alloc ?_ _ | refine Bel.step (by assumption) ?_ | refine Below.drew ?_ | refine Bel.drewN ?_ _ | refine Below.setCell ?_ (by first | exact Nat.le_refl _ | omega | (simp; done) | (simp; omega)) _)
  have HB : Blk w1 w.heap.size 52 #[.int .i64 R.ch.dg, .int .i64 R.ch.tn, .string R.ch.nm, .slice A R.ch.zs.length c, .int .i64 R.ch.wd, .int .i64 R.ch.lf, .int .i64 R.ch.rt, .int .i64 R.ad, .int .i64 R.at_, .int .i64 R.bd, .int .i64 R.bt, .int .i64 R.cd, .int .i64 R.ct, .int .i64 R.dd, .int .i64 R.dt, .int .i64 R.ey, .int .i64 R.bo] := Blk.step hb1 (Blk.alloc _ (Blk.alloc _ (Blk.new _ _ _)))
  have Hu : Blk w1 (w.heap.size + 1) 23 #[.int .i64 ud, .int .i64 ut] := Blk.step hb1 (Blk.alloc _ (by have h := Blk.new (w.alloc (.cells #[.int .i64 R.ch.dg, .int .i64 R.ch.tn, .string R.ch.nm, .slice A R.ch.zs.length c, .int .i64 R.ch.wd, .int .i64 R.ch.lf, .int .i64 R.ch.rt, .int .i64 R.ad, .int .i64 R.at_, .int .i64 R.bd, .int .i64 R.bt, .int .i64 R.cd, .int .i64 R.ct, .int .i64 R.dd, .int .i64 R.dt, .int .i64 R.ey, .int .i64 R.bo] 52)) 23 #[.int .i64 ud, .int .i64 ut]; simp only [World.size_alloc] at h; exact h))
  have Hv : Blk w1 (w.heap.size + 1 + 1) 23 #[.int .i64 vd, .int .i64 vt] := Blk.step hb1 (by have h := Blk.new ((w.alloc (.cells #[.int .i64 R.ch.dg, .int .i64 R.ch.tn, .string R.ch.nm, .slice A R.ch.zs.length c, .int .i64 R.ch.wd, .int .i64 R.ch.lf, .int .i64 R.ch.rt, .int .i64 R.ad, .int .i64 R.at_, .int .i64 R.bd, .int .i64 R.bt, .int .i64 R.cd, .int .i64 R.ct, .int .i64 R.dd, .int .i64 R.dt, .int .i64 R.ey, .int .i64 R.bo] 52)).alloc (.cells #[.int .i64 ud, .int .i64 ut] 23)) 23 #[.int .i64 vd, .int .i64 vt]; simp only [World.size_alloc] at h; exact h)
  clear hb1 hc1 hf1 hz1
  go_upto_region 5 with (fail)
  apply cut_Rr
  · intro key
    refine wp_region_held_drew (S := fun W => Blk W w.heap.size 52 #[.int .i64 R.ch.dg, .int .i64 R.ch.tn, .string R.ch.nm, .slice A R.ch.zs.length c, .int .i64 R.ch.wd, .int .i64 R.ch.lf, .int .i64 R.ch.rt, .int .i64 R.ad, .int .i64 R.at_, .int .i64 R.bd, .int .i64 R.bt, .int .i64 R.cd, .int .i64 R.ct, .int .i64 R.dd, .int .i64 R.dt, .int .i64 R.ey, .int .i64 R.bo] ∧ Blk W (w.heap.size + 1) 23 #[.int .i64 ud, .int .i64 ut] ∧ Blk W (w.heap.size + 1 + 1) 23 #[.int .i64 vd, .int .i64 vt]) (by kernel_rfl) (⟨Blk.drew HB, Blk.drew Hu, Blk.drew Hv⟩) (fun hHeld => ?_)
    have hbel : Below w.heap.size w w1.drew := Below.drew hbel1
    have hsz : w1.heap.size ≤ w1.drew.heap.size := Nat.le_refl _
    have HIA : Ints w1.drew A R.ch.zs := Ints.step hbel hA
    generalize w1.drew = wA at hHeld hbel hsz HIA ⊢
    refine wpAnyH_take (i := 0) (v := .agg #[.int .i64 R.ch.dg, .int .i64 R.ch.tn, .string R.ch.nm, .slice A R.ch.zs.length c, .int .i64 R.ch.wd, .int .i64 R.ch.lf, .int .i64 R.ch.rt, .int .i64 R.ad, .int .i64 R.at_, .int .i64 R.bd, .int .i64 R.bt, .int .i64 R.cd, .int .i64 R.ct, .int .i64 R.dd, .int .i64 R.dt, .int .i64 R.ey, .int .i64 R.bo]) rfl (by kernel_rfl) (by kernel_rfl) (by kernel_rfl) (fun _ _ _ h => h) (yieldsIf_load_blk 52 _ (w.heap.size) (fun _ h => h.1) Try.underlying52 (by kernel_rfl) (by rfl) rfl rfl) hHeld ?_
    try simp only [Act.put, List.setIfInBounds_toArray, List.set_cons_zero, List.set_cons_succ]
    refine wpAnyH_take (i := 2) (v := .agg #[.int .i64 ud, .int .i64 ut]) rfl (by kernel_rfl) (by kernel_rfl) (by kernel_rfl) (fun _ _ _ h => h) (yieldsIf_load_blk 23 _ (w.heap.size + 1) (fun _ h => h.2.1) Try.underlying23 (by kernel_rfl) (by rfl) rfl rfl) hHeld ?_
    try simp only [Act.put, List.setIfInBounds_toArray, List.set_cons_zero, List.set_cons_succ]
    refine wpAnyH_take (i := 4) (v := .agg #[.int .i64 vd, .int .i64 vt]) rfl (by kernel_rfl) (by kernel_rfl) (by kernel_rfl) (fun _ _ _ h => h) (yieldsIf_load_blk 23 _ (w.heap.size + 1 + 1) (fun _ h => h.2.2) Try.underlying23 (by kernel_rfl) (by rfl) rfl rfl) hHeld ?_
    try simp only [Act.put, List.setIfInBounds_toArray, List.set_cons_zero, List.set_cons_succ]
    refine wpAnyH_ready (rs := [1, 11, 12]) (by kernel_rfl) (by simp) ?_
    refine AllReadyH.cons rfl (fun K hK => ?_) (AllReadyH.cons rfl (fun K hK => ?_) (AllReadyH.cons rfl (fun K hK => ?_) AllReadyH.nil))
    · skip
      go_simp
      go_at_call 29; refine (toRelease_c _ _ _ hn _ (Ints.step hbel hA)).mono ?_; rintro e w101 ⟨g101, rfl, hg101, hB101, hb101⟩
      go_wp2_with fail
      refine hK.out _ _ (⟨Blk.step hb101 hHeld.1, Blk.step hb101 hHeld.2.1, Blk.step hb101 hHeld.2.2⟩) (fun hHeld => ?_)
      clear hK K
      try simp only [Act.put, List.setIfInBounds_toArray, List.set_cons_zero, List.set_cons_succ]
      replace hbel := Bel.step hb101 hbel
      replace hsz : w1.heap.size ≤ w101.heap.size := Nat.le_trans hsz hb101.size
      have HJ := hB101.ints
      generalize g101 = G at HJ hg101 ⊢
      clear hB101 hg101
      clear hb101
      refine wpAnyH_ready (rs := [3, 11, 12]) (by kernel_rfl) (by simp) ?_
      refine AllReadyH.cons rfl (fun K hK => ?_) (AllReadyH.cons rfl (fun K hK => ?_) (AllReadyH.cons rfl (fun K hK => ?_) AllReadyH.nil))
      · skip
        go_simp
        go_at_call 30; refine (toFigure_c ud ut _).mono ?_; rintro e w102 ⟨rfl, hb102⟩
        go_wp2_with fail
        refine hK.out _ _ (⟨Blk.step hb102 hHeld.1, Blk.step hb102 hHeld.2.1, Blk.step hb102 hHeld.2.2⟩) (fun hHeld => ?_)
        clear hK K
        try simp only [Act.put, List.setIfInBounds_toArray, List.set_cons_zero, List.set_cons_succ]
        replace hbel := Bel.step hb102 hbel
        replace hsz : w1.heap.size ≤ w102.heap.size := Nat.le_trans hsz hb102.size
        replace HJ := Ints.step hb102 HJ
        clear hb102
        refine wpAnyH_ready (rs := [5, 11, 12]) (by kernel_rfl) (by simp) ?_
        refine AllReadyH.cons rfl (fun K hK => ?_) (AllReadyH.cons rfl (fun K hK => ?_) (AllReadyH.cons rfl (fun K hK => ?_) AllReadyH.nil))
        · skip
          go_simp
          go_at_call 30; refine (toFigure_c vd vt _).mono ?_; rintro e w103 ⟨rfl, hb103⟩
          go_wp2_with fail
          refine hK.out _ _ (⟨Blk.step hb103 hHeld.1, Blk.step hb103 hHeld.2.1, Blk.step hb103 hHeld.2.2⟩) (fun hHeld => ?_)
          clear hK K
          try simp only [Act.put, List.setIfInBounds_toArray, List.set_cons_zero, List.set_cons_succ]
          replace hbel := Bel.step hb103 hbel
          replace hsz : w1.heap.size ≤ w103.heap.size := Nat.le_trans hsz hb103.size
          replace HJ := Ints.step hb103 HJ
          clear hb103
          refine wpAnyH_ready (rs := [6, 11, 12]) (by kernel_rfl) (by simp) ?_
          refine AllReadyH.cons rfl (fun K hK => ?_) (AllReadyH.cons rfl (fun K hK => ?_) (AllReadyH.cons rfl (fun K hK => ?_) AllReadyH.nil))
          · skip
            go_simp
            go_at_call 39; refine (ReadRelease_S _ _ _ _ _ _ _ hn hm _ HJ).mono ?_; rintro e w104 ⟨rfl, hb104⟩
            go_wp2_with fail
            refine hK.out _ _ (⟨Blk.step hb104 hHeld.1, Blk.step hb104 hHeld.2.1, Blk.step hb104 hHeld.2.2⟩) (fun hHeld => ?_)
            clear hK K
            try simp only [Act.put, List.setIfInBounds_toArray, List.set_cons_zero, List.set_cons_succ]
            replace hbel := Bel.step hb104 hbel
            replace hsz : w1.heap.size ≤ w104.heap.size := Nat.le_trans hsz hb104.size
            replace HJ := Ints.step hb104 HJ
            clear HJ
            clear hb104
            refine wpAnyH_take (i := 7) (v := (.tuple #[.agg #[.int .i64 (rl0 R ud ut vd vt), .int .i64 (rl1 R ud ut vd vt)], .agg #[.int .i64 (rl2 R ud ut vd vt), .int .i64 (rl3 R ud ut vd vt)], .int .i64 (rlC R ud ut vd vt)])) rfl (by kernel_rfl) (by kernel_rfl) (by kernel_rfl) (fun _ _ _ h => h) (Or.inl ⟨by rfl, fun w _ => by simp [go_sem, execOp]⟩) hHeld ?_
            try simp only [Act.put, List.setIfInBounds_toArray, List.set_cons_zero, List.set_cons_succ]
            refine wpAnyH_take (i := 8) (v := (.agg #[.int .i64 (rl0 R ud ut vd vt), .int .i64 (rl1 R ud ut vd vt)])) rfl (by kernel_rfl) (by kernel_rfl) (by kernel_rfl) (fun _ _ _ h => h) (Or.inl ⟨by rfl, fun w _ => by simp [go_sem, execOp]⟩) hHeld ?_
            try simp only [Act.put, List.setIfInBounds_toArray, List.set_cons_zero, List.set_cons_succ]
            refine wpAnyH_take (i := 9) (v := (.agg #[.int .i64 (rl2 R ud ut vd vt), .int .i64 (rl3 R ud ut vd vt)])) rfl (by kernel_rfl) (by kernel_rfl) (by kernel_rfl) (fun _ _ _ h => h) (Or.inl ⟨by rfl, fun w _ => by simp [go_sem, execOp]⟩) hHeld ?_
            try simp only [Act.put, List.setIfInBounds_toArray, List.set_cons_zero, List.set_cons_succ]
            refine wpAnyH_take (i := 10) (v := (.int .i64 (rlC R ud ut vd vt))) rfl (by kernel_rfl) (by kernel_rfl) (by kernel_rfl) (fun _ _ _ h => h) (Or.inl ⟨by rfl, fun w _ => by simp [go_sem, execOp]⟩) hHeld ?_
            try simp only [Act.put, List.setIfInBounds_toArray, List.set_cons_zero, List.set_cons_succ]
            refine wpAnyH_ready (rs := [11, 12]) (by kernel_rfl) (by simp) ?_
            refine AllReadyH.cons rfl (fun K hK => ?_) (AllReadyH.cons rfl (fun K hK => ?_) AllReadyH.nil)
            · skip
              go_simp
              refine hK.out _ _ (⟨Blk.alloc _ hHeld.1, Blk.alloc _ hHeld.2.1, Blk.alloc _ hHeld.2.2⟩) (fun hHeld => ?_)
              clear hK K
              try simp only [Act.put, List.setIfInBounds_toArray, List.set_cons_zero, List.set_cons_succ]
              have HA11 := Blk.new w104 34 #[.int .i64 0, .int .i64 0]
              have hlo11 : w1.heap.size ≤ w104.heap.size := hsz
              replace hbel : Below w.heap.size w (w104.alloc (.cells #[.int .i64 0, .int .i64 0] 34)) := Bel.alloc hbel _
              replace hsz : w1.heap.size ≤ (w104.alloc (.cells #[.int .i64 0, .int .i64 0] 34)).heap.size := by simp only [World.size_alloc]; omega
              generalize (w104.alloc (.cells #[.int .i64 0, .int .i64 0] 34)) = w105 at hHeld hbel hsz HA11 hlo11 ⊢
              generalize w104.heap.size = a11 at HA11 hlo11 ⊢
              refine wpAnyH_ready (rs := [12]) (by kernel_rfl) (by simp) ?_
              refine AllReadyH.cons rfl (fun K hK => ?_) AllReadyH.nil
              · skip
                go_simp
                refine hK.out _ _ (⟨Blk.alloc _ hHeld.1, Blk.alloc _ hHeld.2.1, Blk.alloc _ hHeld.2.2⟩) (fun hHeld => ?_)
                clear hK K
                try simp only [Act.put, List.setIfInBounds_toArray, List.set_cons_zero, List.set_cons_succ]
                have HA12 := Blk.new w105 34 #[.int .i64 0, .int .i64 0]
                have hlt := HA11.lt
                have hne : a11 ≠ w105.heap.size := by omega
                replace HA11 : Blk (w105.alloc (.cells #[.int .i64 0, .int .i64 0] 34)) a11 34 #[.int .i64 0, .int .i64 0] := Blk.alloc _ HA11
                clear hlt
                have hlo12 : w1.heap.size ≤ w105.heap.size := hsz
                replace hbel : Below w.heap.size w (w105.alloc (.cells #[.int .i64 0, .int .i64 0] 34)) := Bel.alloc hbel _
                replace hsz : w1.heap.size ≤ (w105.alloc (.cells #[.int .i64 0, .int .i64 0] 34)).heap.size := by simp only [World.size_alloc]; omega
                generalize (w105.alloc (.cells #[.int .i64 0, .int .i64 0] 34)) = w106 at hHeld hbel hsz HA12 hlo12 HA11 hne ⊢
                generalize w105.heap.size = a12 at HA12 hlo12 hne ⊢
                have hall := And.intro hHeld (And.intro hbel (And.intro HA11 (And.intro hlo11 (And.intro HA12 (And.intro hlo12 (hne))))))
                clear hsz hHeld hbel HA11 hlo11 HA12 hlo12 hne
                revert hall
                revert w106 a11 a12 G
                exact key.out
            · skip
              go_simp
              refine hK.out _ _ (⟨Blk.alloc _ hHeld.1, Blk.alloc _ hHeld.2.1, Blk.alloc _ hHeld.2.2⟩) (fun hHeld => ?_)
              clear hK K
              try simp only [Act.put, List.setIfInBounds_toArray, List.set_cons_zero, List.set_cons_succ]
              have HA12 := Blk.new w104 34 #[.int .i64 0, .int .i64 0]
              have hlo12 : w1.heap.size ≤ w104.heap.size := hsz
              replace hbel : Below w.heap.size w (w104.alloc (.cells #[.int .i64 0, .int .i64 0] 34)) := Bel.alloc hbel _
              replace hsz : w1.heap.size ≤ (w104.alloc (.cells #[.int .i64 0, .int .i64 0] 34)).heap.size := by simp only [World.size_alloc]; omega
              generalize (w104.alloc (.cells #[.int .i64 0, .int .i64 0] 34)) = w107 at hHeld hbel hsz HA12 hlo12 ⊢
              generalize w104.heap.size = a12 at HA12 hlo12 ⊢
              refine wpAnyH_ready (rs := [11]) (by kernel_rfl) (by simp) ?_
              refine AllReadyH.cons rfl (fun K hK => ?_) AllReadyH.nil
              · skip
                go_simp
                refine hK.out _ _ (⟨Blk.alloc _ hHeld.1, Blk.alloc _ hHeld.2.1, Blk.alloc _ hHeld.2.2⟩) (fun hHeld => ?_)
                clear hK K
                try simp only [Act.put, List.setIfInBounds_toArray, List.set_cons_zero, List.set_cons_succ]
                have HA11 := Blk.new w107 34 #[.int .i64 0, .int .i64 0]
                have hlt := HA12.lt
                have hne : w107.heap.size ≠ a12 := by omega
                replace HA12 : Blk (w107.alloc (.cells #[.int .i64 0, .int .i64 0] 34)) a12 34 #[.int .i64 0, .int .i64 0] := Blk.alloc _ HA12
                clear hlt
                have hlo11 : w1.heap.size ≤ w107.heap.size := hsz
                replace hbel : Below w.heap.size w (w107.alloc (.cells #[.int .i64 0, .int .i64 0] 34)) := Bel.alloc hbel _
                replace hsz : w1.heap.size ≤ (w107.alloc (.cells #[.int .i64 0, .int .i64 0] 34)).heap.size := by simp only [World.size_alloc]; omega
                generalize (w107.alloc (.cells #[.int .i64 0, .int .i64 0] 34)) = w108 at hHeld hbel hsz HA11 hlo11 HA12 hne ⊢
                generalize w107.heap.size = a11 at HA11 hlo11 hne ⊢
                exact key.out _ _ _ _ (And.intro hHeld (And.intro hbel (And.intro HA11 (And.intro hlo11 (And.intro HA12 (And.intro hlo12 (hne)))))))
          · skip
            go_simp
            refine hK.out _ _ (⟨Blk.alloc _ hHeld.1, Blk.alloc _ hHeld.2.1, Blk.alloc _ hHeld.2.2⟩) (fun hHeld => ?_)
            clear hK K
            try simp only [Act.put, List.setIfInBounds_toArray, List.set_cons_zero, List.set_cons_succ]
            have HA11 := Blk.new w103 34 #[.int .i64 0, .int .i64 0]
            have hlo11 : w1.heap.size ≤ w103.heap.size := hsz
            replace hbel : Below w.heap.size w (w103.alloc (.cells #[.int .i64 0, .int .i64 0] 34)) := Bel.alloc hbel _
            replace hsz : w1.heap.size ≤ (w103.alloc (.cells #[.int .i64 0, .int .i64 0] 34)).heap.size := by simp only [World.size_alloc]; omega
            replace HJ := Ints.alloc (.cells #[.int .i64 0, .int .i64 0] 34) HJ
            generalize (w103.alloc (.cells #[.int .i64 0, .int .i64 0] 34)) = w109 at hHeld hbel hsz HA11 hlo11 HJ ⊢
            generalize w103.heap.size = a11 at HA11 hlo11 ⊢
            refine wpAnyH_ready (rs := [6, 12]) (by kernel_rfl) (by simp) ?_
            refine AllReadyH.cons rfl (fun K hK => ?_) (AllReadyH.cons rfl (fun K hK => ?_) AllReadyH.nil)
            · skip
              go_simp
              go_at_call 39; refine (ReadRelease_S _ _ _ _ _ _ _ hn hm _ HJ).mono ?_; rintro e w110 ⟨rfl, hb110⟩
              go_wp2_with fail
              refine hK.out _ _ (⟨Blk.step hb110 hHeld.1, Blk.step hb110 hHeld.2.1, Blk.step hb110 hHeld.2.2⟩) (fun hHeld => ?_)
              clear hK K
              try simp only [Act.put, List.setIfInBounds_toArray, List.set_cons_zero, List.set_cons_succ]
              replace hbel := Bel.step hb110 hbel
              replace hsz : w1.heap.size ≤ w110.heap.size := Nat.le_trans hsz hb110.size
              replace HA11 := Blk.step hb110 HA11
              replace HJ := Ints.step hb110 HJ
              clear HJ
              clear hb110
              refine wpAnyH_take (i := 7) (v := (.tuple #[.agg #[.int .i64 (rl0 R ud ut vd vt), .int .i64 (rl1 R ud ut vd vt)], .agg #[.int .i64 (rl2 R ud ut vd vt), .int .i64 (rl3 R ud ut vd vt)], .int .i64 (rlC R ud ut vd vt)])) rfl (by kernel_rfl) (by kernel_rfl) (by kernel_rfl) (fun _ _ _ h => h) (Or.inl ⟨by rfl, fun w _ => by simp [go_sem, execOp]⟩) hHeld ?_
              try simp only [Act.put, List.setIfInBounds_toArray, List.set_cons_zero, List.set_cons_succ]
              refine wpAnyH_take (i := 8) (v := (.agg #[.int .i64 (rl0 R ud ut vd vt), .int .i64 (rl1 R ud ut vd vt)])) rfl (by kernel_rfl) (by kernel_rfl) (by kernel_rfl) (fun _ _ _ h => h) (Or.inl ⟨by rfl, fun w _ => by simp [go_sem, execOp]⟩) hHeld ?_
              try simp only [Act.put, List.setIfInBounds_toArray, List.set_cons_zero, List.set_cons_succ]
              refine wpAnyH_take (i := 9) (v := (.agg #[.int .i64 (rl2 R ud ut vd vt), .int .i64 (rl3 R ud ut vd vt)])) rfl (by kernel_rfl) (by kernel_rfl) (by kernel_rfl) (fun _ _ _ h => h) (Or.inl ⟨by rfl, fun w _ => by simp [go_sem, execOp]⟩) hHeld ?_
              try simp only [Act.put, List.setIfInBounds_toArray, List.set_cons_zero, List.set_cons_succ]
              refine wpAnyH_take (i := 10) (v := (.int .i64 (rlC R ud ut vd vt))) rfl (by kernel_rfl) (by kernel_rfl) (by kernel_rfl) (fun _ _ _ h => h) (Or.inl ⟨by rfl, fun w _ => by simp [go_sem, execOp]⟩) hHeld ?_
              try simp only [Act.put, List.setIfInBounds_toArray, List.set_cons_zero, List.set_cons_succ]
              refine wpAnyH_ready (rs := [12]) (by kernel_rfl) (by simp) ?_
              refine AllReadyH.cons rfl (fun K hK => ?_) AllReadyH.nil
              · skip
                go_simp
                refine hK.out _ _ (⟨Blk.alloc _ hHeld.1, Blk.alloc _ hHeld.2.1, Blk.alloc _ hHeld.2.2⟩) (fun hHeld => ?_)
                clear hK K
                try simp only [Act.put, List.setIfInBounds_toArray, List.set_cons_zero, List.set_cons_succ]
                have HA12 := Blk.new w110 34 #[.int .i64 0, .int .i64 0]
                have hlt := HA11.lt
                have hne : a11 ≠ w110.heap.size := by omega
                replace HA11 : Blk (w110.alloc (.cells #[.int .i64 0, .int .i64 0] 34)) a11 34 #[.int .i64 0, .int .i64 0] := Blk.alloc _ HA11
                clear hlt
                have hlo12 : w1.heap.size ≤ w110.heap.size := hsz
                replace hbel : Below w.heap.size w (w110.alloc (.cells #[.int .i64 0, .int .i64 0] 34)) := Bel.alloc hbel _
                replace hsz : w1.heap.size ≤ (w110.alloc (.cells #[.int .i64 0, .int .i64 0] 34)).heap.size := by simp only [World.size_alloc]; omega
                generalize (w110.alloc (.cells #[.int .i64 0, .int .i64 0] 34)) = w111 at hHeld hbel hsz HA12 hlo12 HA11 hne ⊢
                generalize w110.heap.size = a12 at HA12 hlo12 hne ⊢
                exact key.out _ _ _ _ (And.intro hHeld (And.intro hbel (And.intro HA11 (And.intro hlo11 (And.intro HA12 (And.intro hlo12 (hne)))))))
            · skip
              go_simp
              refine hK.out _ _ (⟨Blk.alloc _ hHeld.1, Blk.alloc _ hHeld.2.1, Blk.alloc _ hHeld.2.2⟩) (fun hHeld => ?_)
              clear hK K
              try simp only [Act.put, List.setIfInBounds_toArray, List.set_cons_zero, List.set_cons_succ]
              have HA12 := Blk.new w109 34 #[.int .i64 0, .int .i64 0]
              have hlt := HA11.lt
              have hne : a11 ≠ w109.heap.size := by omega
              replace HA11 : Blk (w109.alloc (.cells #[.int .i64 0, .int .i64 0] 34)) a11 34 #[.int .i64 0, .int .i64 0] := Blk.alloc _ HA11
              clear hlt
              have hlo12 : w1.heap.size ≤ w109.heap.size := hsz
              replace hbel : Below w.heap.size w (w109.alloc (.cells #[.int .i64 0, .int .i64 0] 34)) := Bel.alloc hbel _
              replace hsz : w1.heap.size ≤ (w109.alloc (.cells #[.int .i64 0, .int .i64 0] 34)).heap.size := by simp only [World.size_alloc]; omega
              replace HJ := Ints.alloc (.cells #[.int .i64 0, .int .i64 0] 34) HJ
              generalize (w109.alloc (.cells #[.int .i64 0, .int .i64 0] 34)) = w112 at hHeld hbel hsz HA12 hlo12 HA11 hne HJ ⊢
              generalize w109.heap.size = a12 at HA12 hlo12 hne ⊢
              refine wpAnyH_ready (rs := [6]) (by kernel_rfl) (by simp) ?_
              refine AllReadyH.cons rfl (fun K hK => ?_) AllReadyH.nil
              · skip
                go_simp
                go_at_call 39; refine (ReadRelease_S _ _ _ _ _ _ _ hn hm _ HJ).mono ?_; rintro e w113 ⟨rfl, hb113⟩
                go_wp2_with fail
                refine hK.out _ _ (⟨Blk.step hb113 hHeld.1, Blk.step hb113 hHeld.2.1, Blk.step hb113 hHeld.2.2⟩) (fun hHeld => ?_)
                clear hK K
                try simp only [Act.put, List.setIfInBounds_toArray, List.set_cons_zero, List.set_cons_succ]
                replace hbel := Bel.step hb113 hbel
                replace hsz : w1.heap.size ≤ w113.heap.size := Nat.le_trans hsz hb113.size
                replace HA11 := Blk.step hb113 HA11
                replace HA12 := Blk.step hb113 HA12
                replace HJ := Ints.step hb113 HJ
                clear HJ
                clear hb113
                refine wpAnyH_take (i := 7) (v := (.tuple #[.agg #[.int .i64 (rl0 R ud ut vd vt), .int .i64 (rl1 R ud ut vd vt)], .agg #[.int .i64 (rl2 R ud ut vd vt), .int .i64 (rl3 R ud ut vd vt)], .int .i64 (rlC R ud ut vd vt)])) rfl (by kernel_rfl) (by kernel_rfl) (by kernel_rfl) (fun _ _ _ h => h) (Or.inl ⟨by rfl, fun w _ => by simp [go_sem, execOp]⟩) hHeld ?_
                try simp only [Act.put, List.setIfInBounds_toArray, List.set_cons_zero, List.set_cons_succ]
                refine wpAnyH_take (i := 8) (v := (.agg #[.int .i64 (rl0 R ud ut vd vt), .int .i64 (rl1 R ud ut vd vt)])) rfl (by kernel_rfl) (by kernel_rfl) (by kernel_rfl) (fun _ _ _ h => h) (Or.inl ⟨by rfl, fun w _ => by simp [go_sem, execOp]⟩) hHeld ?_
                try simp only [Act.put, List.setIfInBounds_toArray, List.set_cons_zero, List.set_cons_succ]
                refine wpAnyH_take (i := 9) (v := (.agg #[.int .i64 (rl2 R ud ut vd vt), .int .i64 (rl3 R ud ut vd vt)])) rfl (by kernel_rfl) (by kernel_rfl) (by kernel_rfl) (fun _ _ _ h => h) (Or.inl ⟨by rfl, fun w _ => by simp [go_sem, execOp]⟩) hHeld ?_
                try simp only [Act.put, List.setIfInBounds_toArray, List.set_cons_zero, List.set_cons_succ]
                refine wpAnyH_take (i := 10) (v := (.int .i64 (rlC R ud ut vd vt))) rfl (by kernel_rfl) (by kernel_rfl) (by kernel_rfl) (fun _ _ _ h => h) (Or.inl ⟨by rfl, fun w _ => by simp [go_sem, execOp]⟩) hHeld ?_
                try simp only [Act.put, List.setIfInBounds_toArray, List.set_cons_zero, List.set_cons_succ]
                exact key.out _ _ _ _ (And.intro hHeld (And.intro hbel (And.intro HA11 (And.intro hlo11 (And.intro HA12 (And.intro hlo12 (hne)))))))
          · skip
            go_simp
            refine hK.out _ _ (⟨Blk.alloc _ hHeld.1, Blk.alloc _ hHeld.2.1, Blk.alloc _ hHeld.2.2⟩) (fun hHeld => ?_)
            clear hK K
            try simp only [Act.put, List.setIfInBounds_toArray, List.set_cons_zero, List.set_cons_succ]
            have HA12 := Blk.new w103 34 #[.int .i64 0, .int .i64 0]
            have hlo12 : w1.heap.size ≤ w103.heap.size := hsz
            replace hbel : Below w.heap.size w (w103.alloc (.cells #[.int .i64 0, .int .i64 0] 34)) := Bel.alloc hbel _
            replace hsz : w1.heap.size ≤ (w103.alloc (.cells #[.int .i64 0, .int .i64 0] 34)).heap.size := by simp only [World.size_alloc]; omega
            replace HJ := Ints.alloc (.cells #[.int .i64 0, .int .i64 0] 34) HJ
            generalize (w103.alloc (.cells #[.int .i64 0, .int .i64 0] 34)) = w114 at hHeld hbel hsz HA12 hlo12 HJ ⊢
            generalize w103.heap.size = a12 at HA12 hlo12 ⊢
            refine wpAnyH_ready (rs := [6, 11]) (by kernel_rfl) (by simp) ?_
            refine AllReadyH.cons rfl (fun K hK => ?_) (AllReadyH.cons rfl (fun K hK => ?_) AllReadyH.nil)
            · skip
              go_simp
              go_at_call 39; refine (ReadRelease_S _ _ _ _ _ _ _ hn hm _ HJ).mono ?_; rintro e w115 ⟨rfl, hb115⟩
              go_wp2_with fail
              refine hK.out _ _ (⟨Blk.step hb115 hHeld.1, Blk.step hb115 hHeld.2.1, Blk.step hb115 hHeld.2.2⟩) (fun hHeld => ?_)
              clear hK K
              try simp only [Act.put, List.setIfInBounds_toArray, List.set_cons_zero, List.set_cons_succ]
              replace hbel := Bel.step hb115 hbel
              replace hsz : w1.heap.size ≤ w115.heap.size := Nat.le_trans hsz hb115.size
              replace HA12 := Blk.step hb115 HA12
              replace HJ := Ints.step hb115 HJ
              clear HJ
              clear hb115
              refine wpAnyH_take (i := 7) (v := (.tuple #[.agg #[.int .i64 (rl0 R ud ut vd vt), .int .i64 (rl1 R ud ut vd vt)], .agg #[.int .i64 (rl2 R ud ut vd vt), .int .i64 (rl3 R ud ut vd vt)], .int .i64 (rlC R ud ut vd vt)])) rfl (by kernel_rfl) (by kernel_rfl) (by kernel_rfl) (fun _ _ _ h => h) (Or.inl ⟨by rfl, fun w _ => by simp [go_sem, execOp]⟩) hHeld ?_
              try simp only [Act.put, List.setIfInBounds_toArray, List.set_cons_zero, List.set_cons_succ]
              refine wpAnyH_take (i := 8) (v := (.agg #[.int .i64 (rl0 R ud ut vd vt), .int .i64 (rl1 R ud ut vd vt)])) rfl (by kernel_rfl) (by kernel_rfl) (by kernel_rfl) (fun _ _ _ h => h) (Or.inl ⟨by rfl, fun w _ => by simp [go_sem, execOp]⟩) hHeld ?_
              try simp only [Act.put, List.setIfInBounds_toArray, List.set_cons_zero, List.set_cons_succ]
              refine wpAnyH_take (i := 9) (v := (.agg #[.int .i64 (rl2 R ud ut vd vt), .int .i64 (rl3 R ud ut vd vt)])) rfl (by kernel_rfl) (by kernel_rfl) (by kernel_rfl) (fun _ _ _ h => h) (Or.inl ⟨by rfl, fun w _ => by simp [go_sem, execOp]⟩) hHeld ?_
              try simp only [Act.put, List.setIfInBounds_toArray, List.set_cons_zero, List.set_cons_succ]
              refine wpAnyH_take (i := 10) (v := (.int .i64 (rlC R ud ut vd vt))) rfl (by kernel_rfl) (by kernel_rfl) (by kernel_rfl) (fun _ _ _ h => h) (Or.inl ⟨by rfl, fun w _ => by simp [go_sem, execOp]⟩) hHeld ?_
              try simp only [Act.put, List.setIfInBounds_toArray, List.set_cons_zero, List.set_cons_succ]
              refine wpAnyH_ready (rs := [11]) (by kernel_rfl) (by simp) ?_
              refine AllReadyH.cons rfl (fun K hK => ?_) AllReadyH.nil
              · skip
                go_simp
                refine hK.out _ _ (⟨Blk.alloc _ hHeld.1, Blk.alloc _ hHeld.2.1, Blk.alloc _ hHeld.2.2⟩) (fun hHeld => ?_)
                clear hK K
                try simp only [Act.put, List.setIfInBounds_toArray, List.set_cons_zero, List.set_cons_succ]
                have HA11 := Blk.new w115 34 #[.int .i64 0, .int .i64 0]
                have hlt := HA12.lt
                have hne : w115.heap.size ≠ a12 := by omega
                replace HA12 : Blk (w115.alloc (.cells #[.int .i64 0, .int .i64 0] 34)) a12 34 #[.int .i64 0, .int .i64 0] := Blk.alloc _ HA12
                clear hlt
                have hlo11 : w1.heap.size ≤ w115.heap.size := hsz
                replace hbel : Below w.heap.size w (w115.alloc (.cells #[.int .i64 0, .int .i64 0] 34)) := Bel.alloc hbel _
                replace hsz : w1.heap.size ≤ (w115.alloc (.cells #[.int .i64 0, .int .i64 0] 34)).heap.size := by simp only [World.size_alloc]; omega
                generalize (w115.alloc (.cells #[.int .i64 0, .int .i64 0] 34)) = w116 at hHeld hbel hsz HA11 hlo11 HA12 hne ⊢
                generalize w115.heap.size = a11 at HA11 hlo11 hne ⊢
                exact key.out _ _ _ _ (And.intro hHeld (And.intro hbel (And.intro HA11 (And.intro hlo11 (And.intro HA12 (And.intro hlo12 (hne)))))))
            · skip
              go_simp
              refine hK.out _ _ (⟨Blk.alloc _ hHeld.1, Blk.alloc _ hHeld.2.1, Blk.alloc _ hHeld.2.2⟩) (fun hHeld => ?_)
              clear hK K
              try simp only [Act.put, List.setIfInBounds_toArray, List.set_cons_zero, List.set_cons_succ]
              have HA11 := Blk.new w114 34 #[.int .i64 0, .int .i64 0]
              have hlt := HA12.lt
              have hne : w114.heap.size ≠ a12 := by omega
              replace HA12 : Blk (w114.alloc (.cells #[.int .i64 0, .int .i64 0] 34)) a12 34 #[.int .i64 0, .int .i64 0] := Blk.alloc _ HA12
              clear hlt
              have hlo11 : w1.heap.size ≤ w114.heap.size := hsz
              replace hbel : Below w.heap.size w (w114.alloc (.cells #[.int .i64 0, .int .i64 0] 34)) := Bel.alloc hbel _
              replace hsz : w1.heap.size ≤ (w114.alloc (.cells #[.int .i64 0, .int .i64 0] 34)).heap.size := by simp only [World.size_alloc]; omega
              replace HJ := Ints.alloc (.cells #[.int .i64 0, .int .i64 0] 34) HJ
              generalize (w114.alloc (.cells #[.int .i64 0, .int .i64 0] 34)) = w117 at hHeld hbel hsz HA11 hlo11 HA12 hne HJ ⊢
              generalize w114.heap.size = a11 at HA11 hlo11 hne ⊢
              refine wpAnyH_ready (rs := [6]) (by kernel_rfl) (by simp) ?_
              refine AllReadyH.cons rfl (fun K hK => ?_) AllReadyH.nil
              · skip
                go_simp
                go_at_call 39; refine (ReadRelease_S _ _ _ _ _ _ _ hn hm _ HJ).mono ?_; rintro e w118 ⟨rfl, hb118⟩
                go_wp2_with fail
                refine hK.out _ _ (⟨Blk.step hb118 hHeld.1, Blk.step hb118 hHeld.2.1, Blk.step hb118 hHeld.2.2⟩) (fun hHeld => ?_)
                clear hK K
                try simp only [Act.put, List.setIfInBounds_toArray, List.set_cons_zero, List.set_cons_succ]
                replace hbel := Bel.step hb118 hbel
                replace hsz : w1.heap.size ≤ w118.heap.size := Nat.le_trans hsz hb118.size
                replace HA11 := Blk.step hb118 HA11
                replace HA12 := Blk.step hb118 HA12
                replace HJ := Ints.step hb118 HJ
                clear HJ
                clear hb118
                refine wpAnyH_take (i := 7) (v := (.tuple #[.agg #[.int .i64 (rl0 R ud ut vd vt), .int .i64 (rl1 R ud ut vd vt)], .agg #[.int .i64 (rl2 R ud ut vd vt), .int .i64 (rl3 R ud ut vd vt)], .int .i64 (rlC R ud ut vd vt)])) rfl (by kernel_rfl) (by kernel_rfl) (by kernel_rfl) (fun _ _ _ h => h) (Or.inl ⟨by rfl, fun w _ => by simp [go_sem, execOp]⟩) hHeld ?_
                try simp only [Act.put, List.setIfInBounds_toArray, List.set_cons_zero, List.set_cons_succ]
                refine wpAnyH_take (i := 8) (v := (.agg #[.int .i64 (rl0 R ud ut vd vt), .int .i64 (rl1 R ud ut vd vt)])) rfl (by kernel_rfl) (by kernel_rfl) (by kernel_rfl) (fun _ _ _ h => h) (Or.inl ⟨by rfl, fun w _ => by simp [go_sem, execOp]⟩) hHeld ?_
                try simp only [Act.put, List.setIfInBounds_toArray, List.set_cons_zero, List.set_cons_succ]
                refine wpAnyH_take (i := 9) (v := (.agg #[.int .i64 (rl2 R ud ut vd vt), .int .i64 (rl3 R ud ut vd vt)])) rfl (by kernel_rfl) (by kernel_rfl) (by kernel_rfl) (fun _ _ _ h => h) (Or.inl ⟨by rfl, fun w _ => by simp [go_sem, execOp]⟩) hHeld ?_
                try simp only [Act.put, List.setIfInBounds_toArray, List.set_cons_zero, List.set_cons_succ]
                refine wpAnyH_take (i := 10) (v := (.int .i64 (rlC R ud ut vd vt))) rfl (by kernel_rfl) (by kernel_rfl) (by kernel_rfl) (fun _ _ _ h => h) (Or.inl ⟨by rfl, fun w _ => by simp [go_sem, execOp]⟩) hHeld ?_
                try simp only [Act.put, List.setIfInBounds_toArray, List.set_cons_zero, List.set_cons_succ]
                exact key.out _ _ _ _ (And.intro hHeld (And.intro hbel (And.intro HA11 (And.intro hlo11 (And.intro HA12 (And.intro hlo12 (hne)))))))
        · skip
          go_simp
          refine hK.out _ _ (⟨Blk.alloc _ hHeld.1, Blk.alloc _ hHeld.2.1, Blk.alloc _ hHeld.2.2⟩) (fun hHeld => ?_)
          clear hK K
          try simp only [Act.put, List.setIfInBounds_toArray, List.set_cons_zero, List.set_cons_succ]
          have HA11 := Blk.new w102 34 #[.int .i64 0, .int .i64 0]
          have hlo11 : w1.heap.size ≤ w102.heap.size := hsz
          replace hbel : Below w.heap.size w (w102.alloc (.cells #[.int .i64 0, .int .i64 0] 34)) := Bel.alloc hbel _
          replace hsz : w1.heap.size ≤ (w102.alloc (.cells #[.int .i64 0, .int .i64 0] 34)).heap.size := by simp only [World.size_alloc]; omega
          replace HJ := Ints.alloc (.cells #[.int .i64 0, .int .i64 0] 34) HJ
          generalize (w102.alloc (.cells #[.int .i64 0, .int .i64 0] 34)) = w119 at hHeld hbel hsz HA11 hlo11 HJ ⊢
          generalize w102.heap.size = a11 at HA11 hlo11 ⊢
          refine wpAnyH_ready (rs := [5, 12]) (by kernel_rfl) (by simp) ?_
          refine AllReadyH.cons rfl (fun K hK => ?_) (AllReadyH.cons rfl (fun K hK => ?_) AllReadyH.nil)
          · skip
            go_simp
            go_at_call 30; refine (toFigure_c vd vt _).mono ?_; rintro e w120 ⟨rfl, hb120⟩
            go_wp2_with fail
            refine hK.out _ _ (⟨Blk.step hb120 hHeld.1, Blk.step hb120 hHeld.2.1, Blk.step hb120 hHeld.2.2⟩) (fun hHeld => ?_)
            clear hK K
            try simp only [Act.put, List.setIfInBounds_toArray, List.set_cons_zero, List.set_cons_succ]
            replace hbel := Bel.step hb120 hbel
            replace hsz : w1.heap.size ≤ w120.heap.size := Nat.le_trans hsz hb120.size
            replace HA11 := Blk.step hb120 HA11
            replace HJ := Ints.step hb120 HJ
            clear hb120
            refine wpAnyH_ready (rs := [6, 12]) (by kernel_rfl) (by simp) ?_
            refine AllReadyH.cons rfl (fun K hK => ?_) (AllReadyH.cons rfl (fun K hK => ?_) AllReadyH.nil)
            · skip
              go_simp
              go_at_call 39; refine (ReadRelease_S _ _ _ _ _ _ _ hn hm _ HJ).mono ?_; rintro e w121 ⟨rfl, hb121⟩
              go_wp2_with fail
              refine hK.out _ _ (⟨Blk.step hb121 hHeld.1, Blk.step hb121 hHeld.2.1, Blk.step hb121 hHeld.2.2⟩) (fun hHeld => ?_)
              clear hK K
              try simp only [Act.put, List.setIfInBounds_toArray, List.set_cons_zero, List.set_cons_succ]
              replace hbel := Bel.step hb121 hbel
              replace hsz : w1.heap.size ≤ w121.heap.size := Nat.le_trans hsz hb121.size
              replace HA11 := Blk.step hb121 HA11
              replace HJ := Ints.step hb121 HJ
              clear HJ
              clear hb121
              refine wpAnyH_take (i := 7) (v := (.tuple #[.agg #[.int .i64 (rl0 R ud ut vd vt), .int .i64 (rl1 R ud ut vd vt)], .agg #[.int .i64 (rl2 R ud ut vd vt), .int .i64 (rl3 R ud ut vd vt)], .int .i64 (rlC R ud ut vd vt)])) rfl (by kernel_rfl) (by kernel_rfl) (by kernel_rfl) (fun _ _ _ h => h) (Or.inl ⟨by rfl, fun w _ => by simp [go_sem, execOp]⟩) hHeld ?_
              try simp only [Act.put, List.setIfInBounds_toArray, List.set_cons_zero, List.set_cons_succ]
              refine wpAnyH_take (i := 8) (v := (.agg #[.int .i64 (rl0 R ud ut vd vt), .int .i64 (rl1 R ud ut vd vt)])) rfl (by kernel_rfl) (by kernel_rfl) (by kernel_rfl) (fun _ _ _ h => h) (Or.inl ⟨by rfl, fun w _ => by simp [go_sem, execOp]⟩) hHeld ?_
              try simp only [Act.put, List.setIfInBounds_toArray, List.set_cons_zero, List.set_cons_succ]
              refine wpAnyH_take (i := 9) (v := (.agg #[.int .i64 (rl2 R ud ut vd vt), .int .i64 (rl3 R ud ut vd vt)])) rfl (by kernel_rfl) (by kernel_rfl) (by kernel_rfl) (fun _ _ _ h => h) (Or.inl ⟨by rfl, fun w _ => by simp [go_sem, execOp]⟩) hHeld ?_
              try simp only [Act.put, List.setIfInBounds_toArray, List.set_cons_zero, List.set_cons_succ]
              refine wpAnyH_take (i := 10) (v := (.int .i64 (rlC R ud ut vd vt))) rfl (by kernel_rfl) (by kernel_rfl) (by kernel_rfl) (fun _ _ _ h => h) (Or.inl ⟨by rfl, fun w _ => by simp [go_sem, execOp]⟩) hHeld ?_
              try simp only [Act.put, List.setIfInBounds_toArray, List.set_cons_zero, List.set_cons_succ]
              refine wpAnyH_ready (rs := [12]) (by kernel_rfl) (by simp) ?_
              refine AllReadyH.cons rfl (fun K hK => ?_) AllReadyH.nil
              · skip
                go_simp
                refine hK.out _ _ (⟨Blk.alloc _ hHeld.1, Blk.alloc _ hHeld.2.1, Blk.alloc _ hHeld.2.2⟩) (fun hHeld => ?_)
                clear hK K
                try simp only [Act.put, List.setIfInBounds_toArray, List.set_cons_zero, List.set_cons_succ]
                have HA12 := Blk.new w121 34 #[.int .i64 0, .int .i64 0]
                have hlt := HA11.lt
                have hne : a11 ≠ w121.heap.size := by omega
                replace HA11 : Blk (w121.alloc (.cells #[.int .i64 0, .int .i64 0] 34)) a11 34 #[.int .i64 0, .int .i64 0] := Blk.alloc _ HA11
                clear hlt
                have hlo12 : w1.heap.size ≤ w121.heap.size := hsz
                replace hbel : Below w.heap.size w (w121.alloc (.cells #[.int .i64 0, .int .i64 0] 34)) := Bel.alloc hbel _
                replace hsz : w1.heap.size ≤ (w121.alloc (.cells #[.int .i64 0, .int .i64 0] 34)).heap.size := by simp only [World.size_alloc]; omega
                generalize (w121.alloc (.cells #[.int .i64 0, .int .i64 0] 34)) = w122 at hHeld hbel hsz HA12 hlo12 HA11 hne ⊢
                generalize w121.heap.size = a12 at HA12 hlo12 hne ⊢
                exact key.out _ _ _ _ (And.intro hHeld (And.intro hbel (And.intro HA11 (And.intro hlo11 (And.intro HA12 (And.intro hlo12 (hne)))))))
            · skip
              go_simp
              refine hK.out _ _ (⟨Blk.alloc _ hHeld.1, Blk.alloc _ hHeld.2.1, Blk.alloc _ hHeld.2.2⟩) (fun hHeld => ?_)
              clear hK K
              try simp only [Act.put, List.setIfInBounds_toArray, List.set_cons_zero, List.set_cons_succ]
              have HA12 := Blk.new w120 34 #[.int .i64 0, .int .i64 0]
              have hlt := HA11.lt
              have hne : a11 ≠ w120.heap.size := by omega
              replace HA11 : Blk (w120.alloc (.cells #[.int .i64 0, .int .i64 0] 34)) a11 34 #[.int .i64 0, .int .i64 0] := Blk.alloc _ HA11
              clear hlt
              have hlo12 : w1.heap.size ≤ w120.heap.size := hsz
              replace hbel : Below w.heap.size w (w120.alloc (.cells #[.int .i64 0, .int .i64 0] 34)) := Bel.alloc hbel _
              replace hsz : w1.heap.size ≤ (w120.alloc (.cells #[.int .i64 0, .int .i64 0] 34)).heap.size := by simp only [World.size_alloc]; omega
              replace HJ := Ints.alloc (.cells #[.int .i64 0, .int .i64 0] 34) HJ
              generalize (w120.alloc (.cells #[.int .i64 0, .int .i64 0] 34)) = w123 at hHeld hbel hsz HA12 hlo12 HA11 hne HJ ⊢
              generalize w120.heap.size = a12 at HA12 hlo12 hne ⊢
              refine wpAnyH_ready (rs := [6]) (by kernel_rfl) (by simp) ?_
              refine AllReadyH.cons rfl (fun K hK => ?_) AllReadyH.nil
              · skip
                go_simp
                go_at_call 39; refine (ReadRelease_S _ _ _ _ _ _ _ hn hm _ HJ).mono ?_; rintro e w124 ⟨rfl, hb124⟩
                go_wp2_with fail
                refine hK.out _ _ (⟨Blk.step hb124 hHeld.1, Blk.step hb124 hHeld.2.1, Blk.step hb124 hHeld.2.2⟩) (fun hHeld => ?_)
                clear hK K
                try simp only [Act.put, List.setIfInBounds_toArray, List.set_cons_zero, List.set_cons_succ]
                replace hbel := Bel.step hb124 hbel
                replace hsz : w1.heap.size ≤ w124.heap.size := Nat.le_trans hsz hb124.size
                replace HA11 := Blk.step hb124 HA11
                replace HA12 := Blk.step hb124 HA12
                replace HJ := Ints.step hb124 HJ
                clear HJ
                clear hb124
                refine wpAnyH_take (i := 7) (v := (.tuple #[.agg #[.int .i64 (rl0 R ud ut vd vt), .int .i64 (rl1 R ud ut vd vt)], .agg #[.int .i64 (rl2 R ud ut vd vt), .int .i64 (rl3 R ud ut vd vt)], .int .i64 (rlC R ud ut vd vt)])) rfl (by kernel_rfl) (by kernel_rfl) (by kernel_rfl) (fun _ _ _ h => h) (Or.inl ⟨by rfl, fun w _ => by simp [go_sem, execOp]⟩) hHeld ?_
                try simp only [Act.put, List.setIfInBounds_toArray, List.set_cons_zero, List.set_cons_succ]
                refine wpAnyH_take (i := 8) (v := (.agg #[.int .i64 (rl0 R ud ut vd vt), .int .i64 (rl1 R ud ut vd vt)])) rfl (by kernel_rfl) (by kernel_rfl) (by kernel_rfl) (fun _ _ _ h => h) (Or.inl ⟨by rfl, fun w _ => by simp [go_sem, execOp]⟩) hHeld ?_
                try simp only [Act.put, List.setIfInBounds_toArray, List.set_cons_zero, List.set_cons_succ]
                refine wpAnyH_take (i := 9) (v := (.agg #[.int .i64 (rl2 R ud ut vd vt), .int .i64 (rl3 R ud ut vd vt)])) rfl (by kernel_rfl) (by kernel_rfl) (by kernel_rfl) (fun _ _ _ h => h) (Or.inl ⟨by rfl, fun w _ => by simp [go_sem, execOp]⟩) hHeld ?_
                try simp only [Act.put, List.setIfInBounds_toArray, List.set_cons_zero, List.set_cons_succ]
                refine wpAnyH_take (i := 10) (v := (.int .i64 (rlC R ud ut vd vt))) rfl (by kernel_rfl) (by kernel_rfl) (by kernel_rfl) (fun _ _ _ h => h) (Or.inl ⟨by rfl, fun w _ => by simp [go_sem, execOp]⟩) hHeld ?_
                try simp only [Act.put, List.setIfInBounds_toArray, List.set_cons_zero, List.set_cons_succ]
                exact key.out _ _ _ _ (And.intro hHeld (And.intro hbel (And.intro HA11 (And.intro hlo11 (And.intro HA12 (And.intro hlo12 (hne)))))))
          · skip
            go_simp
            refine hK.out _ _ (⟨Blk.alloc _ hHeld.1, Blk.alloc _ hHeld.2.1, Blk.alloc _ hHeld.2.2⟩) (fun hHeld => ?_)
            clear hK K
            try simp only [Act.put, List.setIfInBounds_toArray, List.set_cons_zero, List.set_cons_succ]
            have HA12 := Blk.new w119 34 #[.int .i64 0, .int .i64 0]
            have hlt := HA11.lt
            have hne : a11 ≠ w119.heap.size := by omega
            replace HA11 : Blk (w119.alloc (.cells #[.int .i64 0, .int .i64 0] 34)) a11 34 #[.int .i64 0, .int .i64 0] := Blk.alloc _ HA11
            clear hlt
            have hlo12 : w1.heap.size ≤ w119.heap.size := hsz
            replace hbel : Below w.heap.size w (w119.alloc (.cells #[.int .i64 0, .int .i64 0] 34)) := Bel.alloc hbel _
            replace hsz : w1.heap.size ≤ (w119.alloc (.cells #[.int .i64 0, .int .i64 0] 34)).heap.size := by simp only [World.size_alloc]; omega
            replace HJ := Ints.alloc (.cells #[.int .i64 0, .int .i64 0] 34) HJ
            generalize (w119.alloc (.cells #[.int .i64 0, .int .i64 0] 34)) = w125 at hHeld hbel hsz HA12 hlo12 HA11 hne HJ ⊢
            generalize w119.heap.size = a12 at HA12 hlo12 hne ⊢
            refine wpAnyH_ready (rs := [5]) (by kernel_rfl) (by simp) ?_
            refine AllReadyH.cons rfl (fun K hK => ?_) AllReadyH.nil
            · skip
              go_simp
              go_at_call 30; refine (toFigure_c vd vt _).mono ?_; rintro e w126 ⟨rfl, hb126⟩
              go_wp2_with fail
              refine hK.out _ _ (⟨Blk.step hb126 hHeld.1, Blk.step hb126 hHeld.2.1, Blk.step hb126 hHeld.2.2⟩) (fun hHeld => ?_)
              clear hK K
              try simp only [Act.put, List.setIfInBounds_toArray, List.set_cons_zero, List.set_cons_succ]
              replace hbel := Bel.step hb126 hbel
              replace hsz : w1.heap.size ≤ w126.heap.size := Nat.le_trans hsz hb126.size
              replace HA11 := Blk.step hb126 HA11
              replace HA12 := Blk.step hb126 HA12
              replace HJ := Ints.step hb126 HJ
              clear hb126
              refine wpAnyH_ready (rs := [6]) (by kernel_rfl) (by simp) ?_
              refine AllReadyH.cons rfl (fun K hK => ?_) AllReadyH.nil
              · skip
                go_simp
                go_at_call 39; refine (ReadRelease_S _ _ _ _ _ _ _ hn hm _ HJ).mono ?_; rintro e w127 ⟨rfl, hb127⟩
                go_wp2_with fail
                refine hK.out _ _ (⟨Blk.step hb127 hHeld.1, Blk.step hb127 hHeld.2.1, Blk.step hb127 hHeld.2.2⟩) (fun hHeld => ?_)
                clear hK K
                try simp only [Act.put, List.setIfInBounds_toArray, List.set_cons_zero, List.set_cons_succ]
                replace hbel := Bel.step hb127 hbel
                replace hsz : w1.heap.size ≤ w127.heap.size := Nat.le_trans hsz hb127.size
                replace HA11 := Blk.step hb127 HA11
                replace HA12 := Blk.step hb127 HA12
                replace HJ := Ints.step hb127 HJ
                clear HJ
                clear hb127
                refine wpAnyH_take (i := 7) (v := (.tuple #[.agg #[.int .i64 (rl0 R ud ut vd vt), .int .i64 (rl1 R ud ut vd vt)], .agg #[.int .i64 (rl2 R ud ut vd vt), .int .i64 (rl3 R ud ut vd vt)], .int .i64 (rlC R ud ut vd vt)])) rfl (by kernel_rfl) (by kernel_rfl) (by kernel_rfl) (fun _ _ _ h => h) (Or.inl ⟨by rfl, fun w _ => by simp [go_sem, execOp]⟩) hHeld ?_
                try simp only [Act.put, List.setIfInBounds_toArray, List.set_cons_zero, List.set_cons_succ]
                refine wpAnyH_take (i := 8) (v := (.agg #[.int .i64 (rl0 R ud ut vd vt), .int .i64 (rl1 R ud ut vd vt)])) rfl (by kernel_rfl) (by kernel_rfl) (by kernel_rfl) (fun _ _ _ h => h) (Or.inl ⟨by rfl, fun w _ => by simp [go_sem, execOp]⟩) hHeld ?_
                try simp only [Act.put, List.setIfInBounds_toArray, List.set_cons_zero, List.set_cons_succ]
                refine wpAnyH_take (i := 9) (v := (.agg #[.int .i64 (rl2 R ud ut vd vt), .int .i64 (rl3 R ud ut vd vt)])) rfl (by kernel_rfl) (by kernel_rfl) (by kernel_rfl) (fun _ _ _ h => h) (Or.inl ⟨by rfl, fun w _ => by simp [go_sem, execOp]⟩) hHeld ?_
                try simp only [Act.put, List.setIfInBounds_toArray, List.set_cons_zero, List.set_cons_succ]
                refine wpAnyH_take (i := 10) (v := (.int .i64 (rlC R ud ut vd vt))) rfl (by kernel_rfl) (by kernel_rfl) (by kernel_rfl) (fun _ _ _ h => h) (Or.inl ⟨by rfl, fun w _ => by simp [go_sem, execOp]⟩) hHeld ?_
                try simp only [Act.put, List.setIfInBounds_toArray, List.set_cons_zero, List.set_cons_succ]
                exact key.out _ _ _ _ (And.intro hHeld (And.intro hbel (And.intro HA11 (And.intro hlo11 (And.intro HA12 (And.intro hlo12 (hne)))))))
        · skip
          go_simp
          refine hK.out _ _ (⟨Blk.alloc _ hHeld.1, Blk.alloc _ hHeld.2.1, Blk.alloc _ hHeld.2.2⟩) (fun hHeld => ?_)
          clear hK K
          try simp only [Act.put, List.setIfInBounds_toArray, List.set_cons_zero, List.set_cons_succ]
          have HA12 := Blk.new w102 34 #[.int .i64 0, .int .i64 0]
          have hlo12 : w1.heap.size ≤ w102.heap.size := hsz
          replace hbel : Below w.heap.size w (w102.alloc (.cells #[.int .i64 0, .int .i64 0] 34)) := Bel.alloc hbel _
          replace hsz : w1.heap.size ≤ (w102.alloc (.cells #[.int .i64 0, .int .i64 0] 34)).heap.size := by simp only [World.size_alloc]; omega
          replace HJ := Ints.alloc (.cells #[.int .i64 0, .int .i64 0] 34) HJ
          generalize (w102.alloc (.cells #[.int .i64 0, .int .i64 0] 34)) = w128 at hHeld hbel hsz HA12 hlo12 HJ ⊢
          generalize w102.heap.size = a12 at HA12 hlo12 ⊢
          refine wpAnyH_ready (rs := [5, 11]) (by kernel_rfl) (by simp) ?_
          refine AllReadyH.cons rfl (fun K hK => ?_) (AllReadyH.cons rfl (fun K hK => ?_) AllReadyH.nil)
          · skip
            go_simp
            go_at_call 30; refine (toFigure_c vd vt _).mono ?_; rintro e w129 ⟨rfl, hb129⟩
            go_wp2_with fail
            refine hK.out _ _ (⟨Blk.step hb129 hHeld.1, Blk.step hb129 hHeld.2.1, Blk.step hb129 hHeld.2.2⟩) (fun hHeld => ?_)
            clear hK K
            try simp only [Act.put, List.setIfInBounds_toArray, List.set_cons_zero, List.set_cons_succ]
            replace hbel := Bel.step hb129 hbel
            replace hsz : w1.heap.size ≤ w129.heap.size := Nat.le_trans hsz hb129.size
            replace HA12 := Blk.step hb129 HA12
            replace HJ := Ints.step hb129 HJ
            clear hb129
            refine wpAnyH_ready (rs := [6, 11]) (by kernel_rfl) (by simp) ?_
            refine AllReadyH.cons rfl (fun K hK => ?_) (AllReadyH.cons rfl (fun K hK => ?_) AllReadyH.nil)
            · skip
              go_simp
              go_at_call 39; refine (ReadRelease_S _ _ _ _ _ _ _ hn hm _ HJ).mono ?_; rintro e w130 ⟨rfl, hb130⟩
              go_wp2_with fail
              refine hK.out _ _ (⟨Blk.step hb130 hHeld.1, Blk.step hb130 hHeld.2.1, Blk.step hb130 hHeld.2.2⟩) (fun hHeld => ?_)
              clear hK K
              try simp only [Act.put, List.setIfInBounds_toArray, List.set_cons_zero, List.set_cons_succ]
              replace hbel := Bel.step hb130 hbel
              replace hsz : w1.heap.size ≤ w130.heap.size := Nat.le_trans hsz hb130.size
              replace HA12 := Blk.step hb130 HA12
              replace HJ := Ints.step hb130 HJ
              clear HJ
              clear hb130
              refine wpAnyH_take (i := 7) (v := (.tuple #[.agg #[.int .i64 (rl0 R ud ut vd vt), .int .i64 (rl1 R ud ut vd vt)], .agg #[.int .i64 (rl2 R ud ut vd vt), .int .i64 (rl3 R ud ut vd vt)], .int .i64 (rlC R ud ut vd vt)])) rfl (by kernel_rfl) (by kernel_rfl) (by kernel_rfl) (fun _ _ _ h => h) (Or.inl ⟨by rfl, fun w _ => by simp [go_sem, execOp]⟩) hHeld ?_
              try simp only [Act.put, List.setIfInBounds_toArray, List.set_cons_zero, List.set_cons_succ]
              refine wpAnyH_take (i := 8) (v := (.agg #[.int .i64 (rl0 R ud ut vd vt), .int .i64 (rl1 R ud ut vd vt)])) rfl (by kernel_rfl) (by kernel_rfl) (by kernel_rfl) (fun _ _ _ h => h) (Or.inl ⟨by rfl, fun w _ => by simp [go_sem, execOp]⟩) hHeld ?_
              try simp only [Act.put, List.setIfInBounds_toArray, List.set_cons_zero, List.set_cons_succ]
              refine wpAnyH_take (i := 9) (v := (.agg #[.int .i64 (rl2 R ud ut vd vt), .int .i64 (rl3 R ud ut vd vt)])) rfl (by kernel_rfl) (by kernel_rfl) (by kernel_rfl) (fun _ _ _ h => h) (Or.inl ⟨by rfl, fun w _ => by simp [go_sem, execOp]⟩) hHeld ?_
              try simp only [Act.put, List.setIfInBounds_toArray, List.set_cons_zero, List.set_cons_succ]
              refine wpAnyH_take (i := 10) (v := (.int .i64 (rlC R ud ut vd vt))) rfl (by kernel_rfl) (by kernel_rfl) (by kernel_rfl) (fun _ _ _ h => h) (Or.inl ⟨by rfl, fun w _ => by simp [go_sem, execOp]⟩) hHeld ?_
              try simp only [Act.put, List.setIfInBounds_toArray, List.set_cons_zero, List.set_cons_succ]
              refine wpAnyH_ready (rs := [11]) (by kernel_rfl) (by simp) ?_
              refine AllReadyH.cons rfl (fun K hK => ?_) AllReadyH.nil
              · skip
                go_simp
                refine hK.out _ _ (⟨Blk.alloc _ hHeld.1, Blk.alloc _ hHeld.2.1, Blk.alloc _ hHeld.2.2⟩) (fun hHeld => ?_)
                clear hK K
                try simp only [Act.put, List.setIfInBounds_toArray, List.set_cons_zero, List.set_cons_succ]
                have HA11 := Blk.new w130 34 #[.int .i64 0, .int .i64 0]
                have hlt := HA12.lt
                have hne : w130.heap.size ≠ a12 := by omega
                replace HA12 : Blk (w130.alloc (.cells #[.int .i64 0, .int .i64 0] 34)) a12 34 #[.int .i64 0, .int .i64 0] := Blk.alloc _ HA12
                clear hlt
                have hlo11 : w1.heap.size ≤ w130.heap.size := hsz
                replace hbel : Below w.heap.size w (w130.alloc (.cells #[.int .i64 0, .int .i64 0] 34)) := Bel.alloc hbel _
                replace hsz : w1.heap.size ≤ (w130.alloc (.cells #[.int .i64 0, .int .i64 0] 34)).heap.size := by simp only [World.size_alloc]; omega
                generalize (w130.alloc (.cells #[.int .i64 0, .int .i64 0] 34)) = w131 at hHeld hbel hsz HA11 hlo11 HA12 hne ⊢
                generalize w130.heap.size = a11 at HA11 hlo11 hne ⊢
                exact key.out _ _ _ _ (And.intro hHeld (And.intro hbel (And.intro HA11 (And.intro hlo11 (And.intro HA12 (And.intro hlo12 (hne)))))))
            · skip
              go_simp
              refine hK.out _ _ (⟨Blk.alloc _ hHeld.1, Blk.alloc _ hHeld.2.1, Blk.alloc _ hHeld.2.2⟩) (fun hHeld => ?_)
              clear hK K
              try simp only [Act.put, List.setIfInBounds_toArray, List.set_cons_zero, List.set_cons_succ]
              have HA11 := Blk.new w129 34 #[.int .i64 0, .int .i64 0]
              have hlt := HA12.lt
              have hne : w129.heap.size ≠ a12 := by omega
              replace HA12 : Blk (w129.alloc (.cells #[.int .i64 0, .int .i64 0] 34)) a12 34 #[.int .i64 0, .int .i64 0] := Blk.alloc _ HA12
              clear hlt
              have hlo11 : w1.heap.size ≤ w129.heap.size := hsz
              replace hbel : Below w.heap.size w (w129.alloc (.cells #[.int .i64 0, .int .i64 0] 34)) := Bel.alloc hbel _
              replace hsz : w1.heap.size ≤ (w129.alloc (.cells #[.int .i64 0, .int .i64 0] 34)).heap.size := by simp only [World.size_alloc]; omega
              replace HJ := Ints.alloc (.cells #[.int .i64 0, .int .i64 0] 34) HJ
              generalize (w129.alloc (.cells #[.int .i64 0, .int .i64 0] 34)) = w132 at hHeld hbel hsz HA11 hlo11 HA12 hne HJ ⊢
              generalize w129.heap.size = a11 at HA11 hlo11 hne ⊢
              refine wpAnyH_ready (rs := [6]) (by kernel_rfl) (by simp) ?_
              refine AllReadyH.cons rfl (fun K hK => ?_) AllReadyH.nil
              · skip
                go_simp
                go_at_call 39; refine (ReadRelease_S _ _ _ _ _ _ _ hn hm _ HJ).mono ?_; rintro e w133 ⟨rfl, hb133⟩
                go_wp2_with fail
                refine hK.out _ _ (⟨Blk.step hb133 hHeld.1, Blk.step hb133 hHeld.2.1, Blk.step hb133 hHeld.2.2⟩) (fun hHeld => ?_)
                clear hK K
                try simp only [Act.put, List.setIfInBounds_toArray, List.set_cons_zero, List.set_cons_succ]
                replace hbel := Bel.step hb133 hbel
                replace hsz : w1.heap.size ≤ w133.heap.size := Nat.le_trans hsz hb133.size
                replace HA11 := Blk.step hb133 HA11
                replace HA12 := Blk.step hb133 HA12
                replace HJ := Ints.step hb133 HJ
                clear HJ
                clear hb133
                refine wpAnyH_take (i := 7) (v := (.tuple #[.agg #[.int .i64 (rl0 R ud ut vd vt), .int .i64 (rl1 R ud ut vd vt)], .agg #[.int .i64 (rl2 R ud ut vd vt), .int .i64 (rl3 R ud ut vd vt)], .int .i64 (rlC R ud ut vd vt)])) rfl (by kernel_rfl) (by kernel_rfl) (by kernel_rfl) (fun _ _ _ h => h) (Or.inl ⟨by rfl, fun w _ => by simp [go_sem, execOp]⟩) hHeld ?_
                try simp only [Act.put, List.setIfInBounds_toArray, List.set_cons_zero, List.set_cons_succ]
                refine wpAnyH_take (i := 8) (v := (.agg #[.int .i64 (rl0 R ud ut vd vt), .int .i64 (rl1 R ud ut vd vt)])) rfl (by kernel_rfl) (by kernel_rfl) (by kernel_rfl) (fun _ _ _ h => h) (Or.inl ⟨by rfl, fun w _ => by simp [go_sem, execOp]⟩) hHeld ?_
                try simp only [Act.put, List.setIfInBounds_toArray, List.set_cons_zero, List.set_cons_succ]
                refine wpAnyH_take (i := 9) (v := (.agg #[.int .i64 (rl2 R ud ut vd vt), .int .i64 (rl3 R ud ut vd vt)])) rfl (by kernel_rfl) (by kernel_rfl) (by kernel_rfl) (fun _ _ _ h => h) (Or.inl ⟨by rfl, fun w _ => by simp [go_sem, execOp]⟩) hHeld ?_
                try simp only [Act.put, List.setIfInBounds_toArray, List.set_cons_zero, List.set_cons_succ]
                refine wpAnyH_take (i := 10) (v := (.int .i64 (rlC R ud ut vd vt))) rfl (by kernel_rfl) (by kernel_rfl) (by kernel_rfl) (fun _ _ _ h => h) (Or.inl ⟨by rfl, fun w _ => by simp [go_sem, execOp]⟩) hHeld ?_
                try simp only [Act.put, List.setIfInBounds_toArray, List.set_cons_zero, List.set_cons_succ]
                exact key.out _ _ _ _ (And.intro hHeld (And.intro hbel (And.intro HA11 (And.intro hlo11 (And.intro HA12 (And.intro hlo12 (hne)))))))
          · skip
            go_simp
            refine hK.out _ _ (⟨Blk.alloc _ hHeld.1, Blk.alloc _ hHeld.2.1, Blk.alloc _ hHeld.2.2⟩) (fun hHeld => ?_)
            clear hK K
            try simp only [Act.put, List.setIfInBounds_toArray, List.set_cons_zero, List.set_cons_succ]
            have HA11 := Blk.new w128 34 #[.int .i64 0, .int .i64 0]
            have hlt := HA12.lt
            have hne : w128.heap.size ≠ a12 := by omega
            replace HA12 : Blk (w128.alloc (.cells #[.int .i64 0, .int .i64 0] 34)) a12 34 #[.int .i64 0, .int .i64 0] := Blk.alloc _ HA12
            clear hlt
            have hlo11 : w1.heap.size ≤ w128.heap.size := hsz
            replace hbel : Below w.heap.size w (w128.alloc (.cells #[.int .i64 0, .int .i64 0] 34)) := Bel.alloc hbel _
            replace hsz : w1.heap.size ≤ (w128.alloc (.cells #[.int .i64 0, .int .i64 0] 34)).heap.size := by simp only [World.size_alloc]; omega
            replace HJ := Ints.alloc (.cells #[.int .i64 0, .int .i64 0] 34) HJ
            generalize (w128.alloc (.cells #[.int .i64 0, .int .i64 0] 34)) = w134 at hHeld hbel hsz HA11 hlo11 HA12 hne HJ ⊢
            generalize w128.heap.size = a11 at HA11 hlo11 hne ⊢
            refine wpAnyH_ready (rs := [5]) (by kernel_rfl) (by simp) ?_
            refine AllReadyH.cons rfl (fun K hK => ?_) AllReadyH.nil
            · skip
              go_simp
              go_at_call 30; refine (toFigure_c vd vt _).mono ?_; rintro e w135 ⟨rfl, hb135⟩
              go_wp2_with fail
              refine hK.out _ _ (⟨Blk.step hb135 hHeld.1, Blk.step hb135 hHeld.2.1, Blk.step hb135 hHeld.2.2⟩) (fun hHeld => ?_)
              clear hK K
              try simp only [Act.put, List.setIfInBounds_toArray, List.set_cons_zero, List.set_cons_succ]
              replace hbel := Bel.step hb135 hbel
              replace hsz : w1.heap.size ≤ w135.heap.size := Nat.le_trans hsz hb135.size
              replace HA11 := Blk.step hb135 HA11
              replace HA12 := Blk.step hb135 HA12
              replace HJ := Ints.step hb135 HJ
              clear hb135
              refine wpAnyH_ready (rs := [6]) (by kernel_rfl) (by simp) ?_
              refine AllReadyH.cons rfl (fun K hK => ?_) AllReadyH.nil
              · skip
                go_simp
                go_at_call 39; refine (ReadRelease_S _ _ _ _ _ _ _ hn hm _ HJ).mono ?_; rintro e w136 ⟨rfl, hb136⟩
                go_wp2_with fail
                refine hK.out _ _ (⟨Blk.step hb136 hHeld.1, Blk.step hb136 hHeld.2.1, Blk.step hb136 hHeld.2.2⟩) (fun hHeld => ?_)
                clear hK K
                try simp only [Act.put, List.setIfInBounds_toArray, List.set_cons_zero, List.set_cons_succ]
                replace hbel := Bel.step hb136 hbel
                replace hsz : w1.heap.size ≤ w136.heap.size := Nat.le_trans hsz hb136.size
                replace HA11 := Blk.step hb136 HA11
                replace HA12 := Blk.step hb136 HA12
                replace HJ := Ints.step hb136 HJ
                clear HJ
                clear hb136
                refine wpAnyH_take (i := 7) (v := (.tuple #[.agg #[.int .i64 (rl0 R ud ut vd vt), .int .i64 (rl1 R ud ut vd vt)], .agg #[.int .i64 (rl2 R ud ut vd vt), .int .i64 (rl3 R ud ut vd vt)], .int .i64 (rlC R ud ut vd vt)])) rfl (by kernel_rfl) (by kernel_rfl) (by kernel_rfl) (fun _ _ _ h => h) (Or.inl ⟨by rfl, fun w _ => by simp [go_sem, execOp]⟩) hHeld ?_
                try simp only [Act.put, List.setIfInBounds_toArray, List.set_cons_zero, List.set_cons_succ]
                refine wpAnyH_take (i := 8) (v := (.agg #[.int .i64 (rl0 R ud ut vd vt), .int .i64 (rl1 R ud ut vd vt)])) rfl (by kernel_rfl) (by kernel_rfl) (by kernel_rfl) (fun _ _ _ h => h) (Or.inl ⟨by rfl, fun w _ => by simp [go_sem, execOp]⟩) hHeld ?_
                try simp only [Act.put, List.setIfInBounds_toArray, List.set_cons_zero, List.set_cons_succ]
                refine wpAnyH_take (i := 9) (v := (.agg #[.int .i64 (rl2 R ud ut vd vt), .int .i64 (rl3 R ud ut vd vt)])) rfl (by kernel_rfl) (by kernel_rfl) (by kernel_rfl) (fun _ _ _ h => h) (Or.inl ⟨by rfl, fun w _ => by simp [go_sem, execOp]⟩) hHeld ?_
                try simp only [Act.put, List.setIfInBounds_toArray, List.set_cons_zero, List.set_cons_succ]
                refine wpAnyH_take (i := 10) (v := (.int .i64 (rlC R ud ut vd vt))) rfl (by kernel_rfl) (by kernel_rfl) (by kernel_rfl) (fun _ _ _ h => h) (Or.inl ⟨by rfl, fun w _ => by simp [go_sem, execOp]⟩) hHeld ?_
                try simp only [Act.put, List.setIfInBounds_toArray, List.set_cons_zero, List.set_cons_succ]
                exact key.out _ _ _ _ (And.intro hHeld (And.intro hbel (And.intro HA11 (And.intro hlo11 (And.intro HA12 (And.intro hlo12 (hne)))))))
      · skip
        go_simp
        refine hK.out _ _ (⟨Blk.alloc _ hHeld.1, Blk.alloc _ hHeld.2.1, Blk.alloc _ hHeld.2.2⟩) (fun hHeld => ?_)
        clear hK K
        try simp only [Act.put, List.setIfInBounds_toArray, List.set_cons_zero, List.set_cons_succ]
        have HA11 := Blk.new w101 34 #[.int .i64 0, .int .i64 0]
        have hlo11 : w1.heap.size ≤ w101.heap.size := hsz
        replace hbel : Below w.heap.size w (w101.alloc (.cells #[.int .i64 0, .int .i64 0] 34)) := Bel.alloc hbel _
        replace hsz : w1.heap.size ≤ (w101.alloc (.cells #[.int .i64 0, .int .i64 0] 34)).heap.size := by simp only [World.size_alloc]; omega
        replace HJ := Ints.alloc (.cells #[.int .i64 0, .int .i64 0] 34) HJ
        generalize (w101.alloc (.cells #[.int .i64 0, .int .i64 0] 34)) = w137 at hHeld hbel hsz HA11 hlo11 HJ ⊢
        generalize w101.heap.size = a11 at HA11 hlo11 ⊢
        refine wpAnyH_ready (rs := [3, 12]) (by kernel_rfl) (by simp) ?_
        refine AllReadyH.cons rfl (fun K hK => ?_) (AllReadyH.cons rfl (fun K hK => ?_) AllReadyH.nil)
        · skip
          go_simp
          go_at_call 30; refine (toFigure_c ud ut _).mono ?_; rintro e w138 ⟨rfl, hb138⟩
          go_wp2_with fail
          refine hK.out _ _ (⟨Blk.step hb138 hHeld.1, Blk.step hb138 hHeld.2.1, Blk.step hb138 hHeld.2.2⟩) (fun hHeld => ?_)
          clear hK K
          try simp only [Act.put, List.setIfInBounds_toArray, List.set_cons_zero, List.set_cons_succ]
          replace hbel := Bel.step hb138 hbel
          replace hsz : w1.heap.size ≤ w138.heap.size := Nat.le_trans hsz hb138.size
          replace HA11 := Blk.step hb138 HA11
          replace HJ := Ints.step hb138 HJ
          clear hb138
          refine wpAnyH_ready (rs := [5, 12]) (by kernel_rfl) (by simp) ?_
          refine AllReadyH.cons rfl (fun K hK => ?_) (AllReadyH.cons rfl (fun K hK => ?_) AllReadyH.nil)
          · skip
            go_simp
            go_at_call 30; refine (toFigure_c vd vt _).mono ?_; rintro e w139 ⟨rfl, hb139⟩
            go_wp2_with fail
            refine hK.out _ _ (⟨Blk.step hb139 hHeld.1, Blk.step hb139 hHeld.2.1, Blk.step hb139 hHeld.2.2⟩) (fun hHeld => ?_)
            clear hK K
            try simp only [Act.put, List.setIfInBounds_toArray, List.set_cons_zero, List.set_cons_succ]
            replace hbel := Bel.step hb139 hbel
            replace hsz : w1.heap.size ≤ w139.heap.size := Nat.le_trans hsz hb139.size
            replace HA11 := Blk.step hb139 HA11
            replace HJ := Ints.step hb139 HJ
            clear hb139
            refine wpAnyH_ready (rs := [6, 12]) (by kernel_rfl) (by simp) ?_
            refine AllReadyH.cons rfl (fun K hK => ?_) (AllReadyH.cons rfl (fun K hK => ?_) AllReadyH.nil)
            · skip
              go_simp
              go_at_call 39; refine (ReadRelease_S _ _ _ _ _ _ _ hn hm _ HJ).mono ?_; rintro e w140 ⟨rfl, hb140⟩
              go_wp2_with fail
              refine hK.out _ _ (⟨Blk.step hb140 hHeld.1, Blk.step hb140 hHeld.2.1, Blk.step hb140 hHeld.2.2⟩) (fun hHeld => ?_)
              clear hK K
              try simp only [Act.put, List.setIfInBounds_toArray, List.set_cons_zero, List.set_cons_succ]
              replace hbel := Bel.step hb140 hbel
              replace hsz : w1.heap.size ≤ w140.heap.size := Nat.le_trans hsz hb140.size
              replace HA11 := Blk.step hb140 HA11
              replace HJ := Ints.step hb140 HJ
              clear HJ
              clear hb140
              refine wpAnyH_take (i := 7) (v := (.tuple #[.agg #[.int .i64 (rl0 R ud ut vd vt), .int .i64 (rl1 R ud ut vd vt)], .agg #[.int .i64 (rl2 R ud ut vd vt), .int .i64 (rl3 R ud ut vd vt)], .int .i64 (rlC R ud ut vd vt)])) rfl (by kernel_rfl) (by kernel_rfl) (by kernel_rfl) (fun _ _ _ h => h) (Or.inl ⟨by rfl, fun w _ => by simp [go_sem, execOp]⟩) hHeld ?_
              try simp only [Act.put, List.setIfInBounds_toArray, List.set_cons_zero, List.set_cons_succ]
              refine wpAnyH_take (i := 8) (v := (.agg #[.int .i64 (rl0 R ud ut vd vt), .int .i64 (rl1 R ud ut vd vt)])) rfl (by kernel_rfl) (by kernel_rfl) (by kernel_rfl) (fun _ _ _ h => h) (Or.inl ⟨by rfl, fun w _ => by simp [go_sem, execOp]⟩) hHeld ?_
              try simp only [Act.put, List.setIfInBounds_toArray, List.set_cons_zero, List.set_cons_succ]
              refine wpAnyH_take (i := 9) (v := (.agg #[.int .i64 (rl2 R ud ut vd vt), .int .i64 (rl3 R ud ut vd vt)])) rfl (by kernel_rfl) (by kernel_rfl) (by kernel_rfl) (fun _ _ _ h => h) (Or.inl ⟨by rfl, fun w _ => by simp [go_sem, execOp]⟩) hHeld ?_
              try simp only [Act.put, List.setIfInBounds_toArray, List.set_cons_zero, List.set_cons_succ]
              refine wpAnyH_take (i := 10) (v := (.int .i64 (rlC R ud ut vd vt))) rfl (by kernel_rfl) (by kernel_rfl) (by kernel_rfl) (fun _ _ _ h => h) (Or.inl ⟨by rfl, fun w _ => by simp [go_sem, execOp]⟩) hHeld ?_
              try simp only [Act.put, List.setIfInBounds_toArray, List.set_cons_zero, List.set_cons_succ]
              refine wpAnyH_ready (rs := [12]) (by kernel_rfl) (by simp) ?_
              refine AllReadyH.cons rfl (fun K hK => ?_) AllReadyH.nil
              · skip
                go_simp
                refine hK.out _ _ (⟨Blk.alloc _ hHeld.1, Blk.alloc _ hHeld.2.1, Blk.alloc _ hHeld.2.2⟩) (fun hHeld => ?_)
                clear hK K
                try simp only [Act.put, List.setIfInBounds_toArray, List.set_cons_zero, List.set_cons_succ]
                have HA12 := Blk.new w140 34 #[.int .i64 0, .int .i64 0]
                have hlt := HA11.lt
                have hne : a11 ≠ w140.heap.size := by omega
                replace HA11 : Blk (w140.alloc (.cells #[.int .i64 0, .int .i64 0] 34)) a11 34 #[.int .i64 0, .int .i64 0] := Blk.alloc _ HA11
                clear hlt
                have hlo12 : w1.heap.size ≤ w140.heap.size := hsz
                replace hbel : Below w.heap.size w (w140.alloc (.cells #[.int .i64 0, .int .i64 0] 34)) := Bel.alloc hbel _
                replace hsz : w1.heap.size ≤ (w140.alloc (.cells #[.int .i64 0, .int .i64 0] 34)).heap.size := by simp only [World.size_alloc]; omega
                generalize (w140.alloc (.cells #[.int .i64 0, .int .i64 0] 34)) = w141 at hHeld hbel hsz HA12 hlo12 HA11 hne ⊢
                generalize w140.heap.size = a12 at HA12 hlo12 hne ⊢
                exact key.out _ _ _ _ (And.intro hHeld (And.intro hbel (And.intro HA11 (And.intro hlo11 (And.intro HA12 (And.intro hlo12 (hne)))))))
            · skip
              go_simp
              refine hK.out _ _ (⟨Blk.alloc _ hHeld.1, Blk.alloc _ hHeld.2.1, Blk.alloc _ hHeld.2.2⟩) (fun hHeld => ?_)
              clear hK K
              try simp only [Act.put, List.setIfInBounds_toArray, List.set_cons_zero, List.set_cons_succ]
              have HA12 := Blk.new w139 34 #[.int .i64 0, .int .i64 0]
              have hlt := HA11.lt
              have hne : a11 ≠ w139.heap.size := by omega
              replace HA11 : Blk (w139.alloc (.cells #[.int .i64 0, .int .i64 0] 34)) a11 34 #[.int .i64 0, .int .i64 0] := Blk.alloc _ HA11
              clear hlt
              have hlo12 : w1.heap.size ≤ w139.heap.size := hsz
              replace hbel : Below w.heap.size w (w139.alloc (.cells #[.int .i64 0, .int .i64 0] 34)) := Bel.alloc hbel _
              replace hsz : w1.heap.size ≤ (w139.alloc (.cells #[.int .i64 0, .int .i64 0] 34)).heap.size := by simp only [World.size_alloc]; omega
              replace HJ := Ints.alloc (.cells #[.int .i64 0, .int .i64 0] 34) HJ
              generalize (w139.alloc (.cells #[.int .i64 0, .int .i64 0] 34)) = w142 at hHeld hbel hsz HA12 hlo12 HA11 hne HJ ⊢
              generalize w139.heap.size = a12 at HA12 hlo12 hne ⊢
              refine wpAnyH_ready (rs := [6]) (by kernel_rfl) (by simp) ?_
              refine AllReadyH.cons rfl (fun K hK => ?_) AllReadyH.nil
              · skip
                go_simp
                go_at_call 39; refine (ReadRelease_S _ _ _ _ _ _ _ hn hm _ HJ).mono ?_; rintro e w143 ⟨rfl, hb143⟩
                go_wp2_with fail
                refine hK.out _ _ (⟨Blk.step hb143 hHeld.1, Blk.step hb143 hHeld.2.1, Blk.step hb143 hHeld.2.2⟩) (fun hHeld => ?_)
                clear hK K
                try simp only [Act.put, List.setIfInBounds_toArray, List.set_cons_zero, List.set_cons_succ]
                replace hbel := Bel.step hb143 hbel
                replace hsz : w1.heap.size ≤ w143.heap.size := Nat.le_trans hsz hb143.size
                replace HA11 := Blk.step hb143 HA11
                replace HA12 := Blk.step hb143 HA12
                replace HJ := Ints.step hb143 HJ
                clear HJ
                clear hb143
                refine wpAnyH_take (i := 7) (v := (.tuple #[.agg #[.int .i64 (rl0 R ud ut vd vt), .int .i64 (rl1 R ud ut vd vt)], .agg #[.int .i64 (rl2 R ud ut vd vt), .int .i64 (rl3 R ud ut vd vt)], .int .i64 (rlC R ud ut vd vt)])) rfl (by kernel_rfl) (by kernel_rfl) (by kernel_rfl) (fun _ _ _ h => h) (Or.inl ⟨by rfl, fun w _ => by simp [go_sem, execOp]⟩) hHeld ?_
                try simp only [Act.put, List.setIfInBounds_toArray, List.set_cons_zero, List.set_cons_succ]
                refine wpAnyH_take (i := 8) (v := (.agg #[.int .i64 (rl0 R ud ut vd vt), .int .i64 (rl1 R ud ut vd vt)])) rfl (by kernel_rfl) (by kernel_rfl) (by kernel_rfl) (fun _ _ _ h => h) (Or.inl ⟨by rfl, fun w _ => by simp [go_sem, execOp]⟩) hHeld ?_
                try simp only [Act.put, List.setIfInBounds_toArray, List.set_cons_zero, List.set_cons_succ]
                refine wpAnyH_take (i := 9) (v := (.agg #[.int .i64 (rl2 R ud ut vd vt), .int .i64 (rl3 R ud ut vd vt)])) rfl (by kernel_rfl) (by kernel_rfl) (by kernel_rfl) (fun _ _ _ h => h) (Or.inl ⟨by rfl, fun w _ => by simp [go_sem, execOp]⟩) hHeld ?_
                try simp only [Act.put, List.setIfInBounds_toArray, List.set_cons_zero, List.set_cons_succ]
                refine wpAnyH_take (i := 10) (v := (.int .i64 (rlC R ud ut vd vt))) rfl (by kernel_rfl) (by kernel_rfl) (by kernel_rfl) (fun _ _ _ h => h) (Or.inl ⟨by rfl, fun w _ => by simp [go_sem, execOp]⟩) hHeld ?_
                try simp only [Act.put, List.setIfInBounds_toArray, List.set_cons_zero, List.set_cons_succ]
                exact key.out _ _ _ _ (And.intro hHeld (And.intro hbel (And.intro HA11 (And.intro hlo11 (And.intro HA12 (And.intro hlo12 (hne)))))))
          · skip
            go_simp
            refine hK.out _ _ (⟨Blk.alloc _ hHeld.1, Blk.alloc _ hHeld.2.1, Blk.alloc _ hHeld.2.2⟩) (fun hHeld => ?_)
            clear hK K
            try simp only [Act.put, List.setIfInBounds_toArray, List.set_cons_zero, List.set_cons_succ]
            have HA12 := Blk.new w138 34 #[.int .i64 0, .int .i64 0]
            have hlt := HA11.lt
            have hne : a11 ≠ w138.heap.size := by omega
            replace HA11 : Blk (w138.alloc (.cells #[.int .i64 0, .int .i64 0] 34)) a11 34 #[.int .i64 0, .int .i64 0] := Blk.alloc _ HA11
            clear hlt
            have hlo12 : w1.heap.size ≤ w138.heap.size := hsz
            replace hbel : Below w.heap.size w (w138.alloc (.cells #[.int .i64 0, .int .i64 0] 34)) := Bel.alloc hbel _
            replace hsz : w1.heap.size ≤ (w138.alloc (.cells #[.int .i64 0, .int .i64 0] 34)).heap.size := by simp only [World.size_alloc]; omega
            replace HJ := Ints.alloc (.cells #[.int .i64 0, .int .i64 0] 34) HJ
            generalize (w138.alloc (.cells #[.int .i64 0, .int .i64 0] 34)) = w144 at hHeld hbel hsz HA12 hlo12 HA11 hne HJ ⊢
            generalize w138.heap.size = a12 at HA12 hlo12 hne ⊢
            refine wpAnyH_ready (rs := [5]) (by kernel_rfl) (by simp) ?_
            refine AllReadyH.cons rfl (fun K hK => ?_) AllReadyH.nil
            · skip
              go_simp
              go_at_call 30; refine (toFigure_c vd vt _).mono ?_; rintro e w145 ⟨rfl, hb145⟩
              go_wp2_with fail
              refine hK.out _ _ (⟨Blk.step hb145 hHeld.1, Blk.step hb145 hHeld.2.1, Blk.step hb145 hHeld.2.2⟩) (fun hHeld => ?_)
              clear hK K
              try simp only [Act.put, List.setIfInBounds_toArray, List.set_cons_zero, List.set_cons_succ]
              replace hbel := Bel.step hb145 hbel
              replace hsz : w1.heap.size ≤ w145.heap.size := Nat.le_trans hsz hb145.size
              replace HA11 := Blk.step hb145 HA11
              replace HA12 := Blk.step hb145 HA12
              replace HJ := Ints.step hb145 HJ
              clear hb145
              refine wpAnyH_ready (rs := [6]) (by kernel_rfl) (by simp) ?_
              refine AllReadyH.cons rfl (fun K hK => ?_) AllReadyH.nil
              · skip
                go_simp
                go_at_call 39; refine (ReadRelease_S _ _ _ _ _ _ _ hn hm _ HJ).mono ?_; rintro e w146 ⟨rfl, hb146⟩
                go_wp2_with fail
                refine hK.out _ _ (⟨Blk.step hb146 hHeld.1, Blk.step hb146 hHeld.2.1, Blk.step hb146 hHeld.2.2⟩) (fun hHeld => ?_)
                clear hK K
                try simp only [Act.put, List.setIfInBounds_toArray, List.set_cons_zero, List.set_cons_succ]
                replace hbel := Bel.step hb146 hbel
                replace hsz : w1.heap.size ≤ w146.heap.size := Nat.le_trans hsz hb146.size
                replace HA11 := Blk.step hb146 HA11
                replace HA12 := Blk.step hb146 HA12
                replace HJ := Ints.step hb146 HJ
                clear HJ
                clear hb146
                refine wpAnyH_take (i := 7) (v := (.tuple #[.agg #[.int .i64 (rl0 R ud ut vd vt), .int .i64 (rl1 R ud ut vd vt)], .agg #[.int .i64 (rl2 R ud ut vd vt), .int .i64 (rl3 R ud ut vd vt)], .int .i64 (rlC R ud ut vd vt)])) rfl (by kernel_rfl) (by kernel_rfl) (by kernel_rfl) (fun _ _ _ h => h) (Or.inl ⟨by rfl, fun w _ => by simp [go_sem, execOp]⟩) hHeld ?_
                try simp only [Act.put, List.setIfInBounds_toArray, List.set_cons_zero, List.set_cons_succ]
                refine wpAnyH_take (i := 8) (v := (.agg #[.int .i64 (rl0 R ud ut vd vt), .int .i64 (rl1 R ud ut vd vt)])) rfl (by kernel_rfl) (by kernel_rfl) (by kernel_rfl) (fun _ _ _ h => h) (Or.inl ⟨by rfl, fun w _ => by simp [go_sem, execOp]⟩) hHeld ?_
                try simp only [Act.put, List.setIfInBounds_toArray, List.set_cons_zero, List.set_cons_succ]
                refine wpAnyH_take (i := 9) (v := (.agg #[.int .i64 (rl2 R ud ut vd vt), .int .i64 (rl3 R ud ut vd vt)])) rfl (by kernel_rfl) (by kernel_rfl) (by kernel_rfl) (fun _ _ _ h => h) (Or.inl ⟨by rfl, fun w _ => by simp [go_sem, execOp]⟩) hHeld ?_
                try simp only [Act.put, List.setIfInBounds_toArray, List.set_cons_zero, List.set_cons_succ]
                refine wpAnyH_take (i := 10) (v := (.int .i64 (rlC R ud ut vd vt))) rfl (by kernel_rfl) (by kernel_rfl) (by kernel_rfl) (fun _ _ _ h => h) (Or.inl ⟨by rfl, fun w _ => by simp [go_sem, execOp]⟩) hHeld ?_
                try simp only [Act.put, List.setIfInBounds_toArray, List.set_cons_zero, List.set_cons_succ]
                exact key.out _ _ _ _ (And.intro hHeld (And.intro hbel (And.intro HA11 (And.intro hlo11 (And.intro HA12 (And.intro hlo12 (hne)))))))
        · skip
          go_simp
          refine hK.out _ _ (⟨Blk.alloc _ hHeld.1, Blk.alloc _ hHeld.2.1, Blk.alloc _ hHeld.2.2⟩) (fun hHeld => ?_)
          clear hK K
          try simp only [Act.put, List.setIfInBounds_toArray, List.set_cons_zero, List.set_cons_succ]
          have HA12 := Blk.new w137 34 #[.int .i64 0, .int .i64 0]
          have hlt := HA11.lt
          have hne : a11 ≠ w137.heap.size := by omega
          replace HA11 : Blk (w137.alloc (.cells #[.int .i64 0, .int .i64 0] 34)) a11 34 #[.int .i64 0, .int .i64 0] := Blk.alloc _ HA11
          clear hlt
          have hlo12 : w1.heap.size ≤ w137.heap.size := hsz
          replace hbel : Below w.heap.size w (w137.alloc (.cells #[.int .i64 0, .int .i64 0] 34)) := Bel.alloc hbel _
          replace hsz : w1.heap.size ≤ (w137.alloc (.cells #[.int .i64 0, .int .i64 0] 34)).heap.size := by simp only [World.size_alloc]; omega
          replace HJ := Ints.alloc (.cells #[.int .i64 0, .int .i64 0] 34) HJ
          generalize (w137.alloc (.cells #[.int .i64 0, .int .i64 0] 34)) = w147 at hHeld hbel hsz HA12 hlo12 HA11 hne HJ ⊢
          generalize w137.heap.size = a12 at HA12 hlo12 hne ⊢
          refine wpAnyH_ready (rs := [3]) (by kernel_rfl) (by simp) ?_
          refine AllReadyH.cons rfl (fun K hK => ?_) AllReadyH.nil
          · skip
            go_simp
            go_at_call 30; refine (toFigure_c ud ut _).mono ?_; rintro e w148 ⟨rfl, hb148⟩
            go_wp2_with fail
            refine hK.out _ _ (⟨Blk.step hb148 hHeld.1, Blk.step hb148 hHeld.2.1, Blk.step hb148 hHeld.2.2⟩) (fun hHeld => ?_)
            clear hK K
            try simp only [Act.put, List.setIfInBounds_toArray, List.set_cons_zero, List.set_cons_succ]
            replace hbel := Bel.step hb148 hbel
            replace hsz : w1.heap.size ≤ w148.heap.size := Nat.le_trans hsz hb148.size
            replace HA11 := Blk.step hb148 HA11
            replace HA12 := Blk.step hb148 HA12
            replace HJ := Ints.step hb148 HJ
            clear hb148
            refine wpAnyH_ready (rs := [5]) (by kernel_rfl) (by simp) ?_
            refine AllReadyH.cons rfl (fun K hK => ?_) AllReadyH.nil
            · skip
              go_simp
              go_at_call 30; refine (toFigure_c vd vt _).mono ?_; rintro e w149 ⟨rfl, hb149⟩
              go_wp2_with fail
              refine hK.out _ _ (⟨Blk.step hb149 hHeld.1, Blk.step hb149 hHeld.2.1, Blk.step hb149 hHeld.2.2⟩) (fun hHeld => ?_)
              clear hK K
              try simp only [Act.put, List.setIfInBounds_toArray, List.set_cons_zero, List.set_cons_succ]
              replace hbel := Bel.step hb149 hbel
              replace hsz : w1.heap.size ≤ w149.heap.size := Nat.le_trans hsz hb149.size
              replace HA11 := Blk.step hb149 HA11
              replace HA12 := Blk.step hb149 HA12
              replace HJ := Ints.step hb149 HJ
              clear hb149
              refine wpAnyH_ready (rs := [6]) (by kernel_rfl) (by simp) ?_
              refine AllReadyH.cons rfl (fun K hK => ?_) AllReadyH.nil
              · skip
                go_simp
                go_at_call 39; refine (ReadRelease_S _ _ _ _ _ _ _ hn hm _ HJ).mono ?_; rintro e w150 ⟨rfl, hb150⟩
                go_wp2_with fail
                refine hK.out _ _ (⟨Blk.step hb150 hHeld.1, Blk.step hb150 hHeld.2.1, Blk.step hb150 hHeld.2.2⟩) (fun hHeld => ?_)
                clear hK K
                try simp only [Act.put, List.setIfInBounds_toArray, List.set_cons_zero, List.set_cons_succ]
                replace hbel := Bel.step hb150 hbel
                replace hsz : w1.heap.size ≤ w150.heap.size := Nat.le_trans hsz hb150.size
                replace HA11 := Blk.step hb150 HA11
                replace HA12 := Blk.step hb150 HA12
                replace HJ := Ints.step hb150 HJ
                clear HJ
                clear hb150
                refine wpAnyH_take (i := 7) (v := (.tuple #[.agg #[.int .i64 (rl0 R ud ut vd vt), .int .i64 (rl1 R ud ut vd vt)], .agg #[.int .i64 (rl2 R ud ut vd vt), .int .i64 (rl3 R ud ut vd vt)], .int .i64 (rlC R ud ut vd vt)])) rfl (by kernel_rfl) (by kernel_rfl) (by kernel_rfl) (fun _ _ _ h => h) (Or.inl ⟨by rfl, fun w _ => by simp [go_sem, execOp]⟩) hHeld ?_
                try simp only [Act.put, List.setIfInBounds_toArray, List.set_cons_zero, List.set_cons_succ]
                refine wpAnyH_take (i := 8) (v := (.agg #[.int .i64 (rl0 R ud ut vd vt), .int .i64 (rl1 R ud ut vd vt)])) rfl (by kernel_rfl) (by kernel_rfl) (by kernel_rfl) (fun _ _ _ h => h) (Or.inl ⟨by rfl, fun w _ => by simp [go_sem, execOp]⟩) hHeld ?_
                try simp only [Act.put, List.setIfInBounds_toArray, List.set_cons_zero, List.set_cons_succ]
                refine wpAnyH_take (i := 9) (v := (.agg #[.int .i64 (rl2 R ud ut vd vt), .int .i64 (rl3 R ud ut vd vt)])) rfl (by kernel_rfl) (by kernel_rfl) (by kernel_rfl) (fun _ _ _ h => h) (Or.inl ⟨by rfl, fun w _ => by simp [go_sem, execOp]⟩) hHeld ?_
                try simp only [Act.put, List.setIfInBounds_toArray, List.set_cons_zero, List.set_cons_succ]
                refine wpAnyH_take (i := 10) (v := (.int .i64 (rlC R ud ut vd vt))) rfl (by kernel_rfl) (by kernel_rfl) (by kernel_rfl) (fun _ _ _ h => h) (Or.inl ⟨by rfl, fun w _ => by simp [go_sem, execOp]⟩) hHeld ?_
                try simp only [Act.put, List.setIfInBounds_toArray, List.set_cons_zero, List.set_cons_succ]
                exact key.out _ _ _ _ (And.intro hHeld (And.intro hbel (And.intro HA11 (And.intro hlo11 (And.intro HA12 (And.intro hlo12 (hne)))))))
      · skip
        go_simp
        refine hK.out _ _ (⟨Blk.alloc _ hHeld.1, Blk.alloc _ hHeld.2.1, Blk.alloc _ hHeld.2.2⟩) (fun hHeld => ?_)
        clear hK K
        try simp only [Act.put, List.setIfInBounds_toArray, List.set_cons_zero, List.set_cons_succ]
        have HA12 := Blk.new w101 34 #[.int .i64 0, .int .i64 0]
        have hlo12 : w1.heap.size ≤ w101.heap.size := hsz
        replace hbel : Below w.heap.size w (w101.alloc (.cells #[.int .i64 0, .int .i64 0] 34)) := Bel.alloc hbel _
        replace hsz : w1.heap.size ≤ (w101.alloc (.cells #[.int .i64 0, .int .i64 0] 34)).heap.size := by simp only [World.size_alloc]; omega
        replace HJ := Ints.alloc (.cells #[.int .i64 0, .int .i64 0] 34) HJ
        generalize (w101.alloc (.cells #[.int .i64 0, .int .i64 0] 34)) = w151 at hHeld hbel hsz HA12 hlo12 HJ ⊢
        generalize w101.heap.size = a12 at HA12 hlo12 ⊢
        refine wpAnyH_ready (rs := [3, 11]) (by kernel_rfl) (by simp) ?_
        refine AllReadyH.cons rfl (fun K hK => ?_) (AllReadyH.cons rfl (fun K hK => ?_) AllReadyH.nil)
        · skip
          go_simp
          go_at_call 30; refine (toFigure_c ud ut _).mono ?_; rintro e w152 ⟨rfl, hb152⟩
          go_wp2_with fail
          refine hK.out _ _ (⟨Blk.step hb152 hHeld.1, Blk.step hb152 hHeld.2.1, Blk.step hb152 hHeld.2.2⟩) (fun hHeld => ?_)
          clear hK K
          try simp only [Act.put, List.setIfInBounds_toArray, List.set_cons_zero, List.set_cons_succ]
          replace hbel := Bel.step hb152 hbel
          replace hsz : w1.heap.size ≤ w152.heap.size := Nat.le_trans hsz hb152.size
          replace HA12 := Blk.step hb152 HA12
          replace HJ := Ints.step hb152 HJ
          clear hb152
          refine wpAnyH_ready (rs := [5, 11]) (by kernel_rfl) (by simp) ?_
          refine AllReadyH.cons rfl (fun K hK => ?_) (AllReadyH.cons rfl (fun K hK => ?_) AllReadyH.nil)
          · skip
            go_simp
            go_at_call 30; refine (toFigure_c vd vt _).mono ?_; rintro e w153 ⟨rfl, hb153⟩
            go_wp2_with fail
            refine hK.out _ _ (⟨Blk.step hb153 hHeld.1, Blk.step hb153 hHeld.2.1, Blk.step hb153 hHeld.2.2⟩) (fun hHeld => ?_)
            clear hK K
            try simp only [Act.put, List.setIfInBounds_toArray, List.set_cons_zero, List.set_cons_succ]
            replace hbel := Bel.step hb153 hbel
            replace hsz : w1.heap.size ≤ w153.heap.size := Nat.le_trans hsz hb153.size
            replace HA12 := Blk.step hb153 HA12
            replace HJ := Ints.step hb153 HJ
            clear hb153
            refine wpAnyH_ready (rs := [6, 11]) (by kernel_rfl) (by simp) ?_
            refine AllReadyH.cons rfl (fun K hK => ?_) (AllReadyH.cons rfl (fun K hK => ?_) AllReadyH.nil)
            · skip
              go_simp
              go_at_call 39; refine (ReadRelease_S _ _ _ _ _ _ _ hn hm _ HJ).mono ?_; rintro e w154 ⟨rfl, hb154⟩
              go_wp2_with fail
              refine hK.out _ _ (⟨Blk.step hb154 hHeld.1, Blk.step hb154 hHeld.2.1, Blk.step hb154 hHeld.2.2⟩) (fun hHeld => ?_)
              clear hK K
              try simp only [Act.put, List.setIfInBounds_toArray, List.set_cons_zero, List.set_cons_succ]
              replace hbel := Bel.step hb154 hbel
              replace hsz : w1.heap.size ≤ w154.heap.size := Nat.le_trans hsz hb154.size
              replace HA12 := Blk.step hb154 HA12
              replace HJ := Ints.step hb154 HJ
              clear HJ
              clear hb154
              refine wpAnyH_take (i := 7) (v := (.tuple #[.agg #[.int .i64 (rl0 R ud ut vd vt), .int .i64 (rl1 R ud ut vd vt)], .agg #[.int .i64 (rl2 R ud ut vd vt), .int .i64 (rl3 R ud ut vd vt)], .int .i64 (rlC R ud ut vd vt)])) rfl (by kernel_rfl) (by kernel_rfl) (by kernel_rfl) (fun _ _ _ h => h) (Or.inl ⟨by rfl, fun w _ => by simp [go_sem, execOp]⟩) hHeld ?_
              try simp only [Act.put, List.setIfInBounds_toArray, List.set_cons_zero, List.set_cons_succ]
              refine wpAnyH_take (i := 8) (v := (.agg #[.int .i64 (rl0 R ud ut vd vt), .int .i64 (rl1 R ud ut vd vt)])) rfl (by kernel_rfl) (by kernel_rfl) (by kernel_rfl) (fun _ _ _ h => h) (Or.inl ⟨by rfl, fun w _ => by simp [go_sem, execOp]⟩) hHeld ?_
              try simp only [Act.put, List.setIfInBounds_toArray, List.set_cons_zero, List.set_cons_succ]
              refine wpAnyH_take (i := 9) (v := (.agg #[.int .i64 (rl2 R ud ut vd vt), .int .i64 (rl3 R ud ut vd vt)])) rfl (by kernel_rfl) (by kernel_rfl) (by kernel_rfl) (fun _ _ _ h => h) (Or.inl ⟨by rfl, fun w _ => by simp [go_sem, execOp]⟩) hHeld ?_
              try simp only [Act.put, List.setIfInBounds_toArray, List.set_cons_zero, List.set_cons_succ]
              refine wpAnyH_take (i := 10) (v := (.int .i64 (rlC R ud ut vd vt))) rfl (by kernel_rfl) (by kernel_rfl) (by kernel_rfl) (fun _ _ _ h => h) (Or.inl ⟨by rfl, fun w _ => by simp [go_sem, execOp]⟩) hHeld ?_
              try simp only [Act.put, List.setIfInBounds_toArray, List.set_cons_zero, List.set_cons_succ]
              refine wpAnyH_ready (rs := [11]) (by kernel_rfl) (by simp) ?_
              refine AllReadyH.cons rfl (fun K hK => ?_) AllReadyH.nil
              · skip
                go_simp
                refine hK.out _ _ (⟨Blk.alloc _ hHeld.1, Blk.alloc _ hHeld.2.1, Blk.alloc _ hHeld.2.2⟩) (fun hHeld => ?_)
                clear hK K
                try simp only [Act.put, List.setIfInBounds_toArray, List.set_cons_zero, List.set_cons_succ]
                have HA11 := Blk.new w154 34 #[.int .i64 0, .int .i64 0]
                have hlt := HA12.lt
                have hne : w154.heap.size ≠ a12 := by omega
                replace HA12 : Blk (w154.alloc (.cells #[.int .i64 0, .int .i64 0] 34)) a12 34 #[.int .i64 0, .int .i64 0] := Blk.alloc _ HA12
                clear hlt
                have hlo11 : w1.heap.size ≤ w154.heap.size := hsz
                replace hbel : Below w.heap.size w (w154.alloc (.cells #[.int .i64 0, .int .i64 0] 34)) := Bel.alloc hbel _
                replace hsz : w1.heap.size ≤ (w154.alloc (.cells #[.int .i64 0, .int .i64 0] 34)).heap.size := by simp only [World.size_alloc]; omega
                generalize (w154.alloc (.cells #[.int .i64 0, .int .i64 0] 34)) = w155 at hHeld hbel hsz HA11 hlo11 HA12 hne ⊢
                generalize w154.heap.size = a11 at HA11 hlo11 hne ⊢
                exact key.out _ _ _ _ (And.intro hHeld (And.intro hbel (And.intro HA11 (And.intro hlo11 (And.intro HA12 (And.intro hlo12 (hne)))))))
            · skip
              go_simp
              refine hK.out _ _ (⟨Blk.alloc _ hHeld.1, Blk.alloc _ hHeld.2.1, Blk.alloc _ hHeld.2.2⟩) (fun hHeld => ?_)
              clear hK K
              try simp only [Act.put, List.setIfInBounds_toArray, List.set_cons_zero, List.set_cons_succ]
              have HA11 := Blk.new w153 34 #[.int .i64 0, .int .i64 0]
              have hlt := HA12.lt
              have hne : w153.heap.size ≠ a12 := by omega
              replace HA12 : Blk (w153.alloc (.cells #[.int .i64 0, .int .i64 0] 34)) a12 34 #[.int .i64 0, .int .i64 0] := Blk.alloc _ HA12
              clear hlt
              have hlo11 : w1.heap.size ≤ w153.heap.size := hsz
              replace hbel : Below w.heap.size w (w153.alloc (.cells #[.int .i64 0, .int .i64 0] 34)) := Bel.alloc hbel _
              replace hsz : w1.heap.size ≤ (w153.alloc (.cells #[.int .i64 0, .int .i64 0] 34)).heap.size := by simp only [World.size_alloc]; omega
              replace HJ := Ints.alloc (.cells #[.int .i64 0, .int .i64 0] 34) HJ
              generalize (w153.alloc (.cells #[.int .i64 0, .int .i64 0] 34)) = w156 at hHeld hbel hsz HA11 hlo11 HA12 hne HJ ⊢
              generalize w153.heap.size = a11 at HA11 hlo11 hne ⊢
              refine wpAnyH_ready (rs := [6]) (by kernel_rfl) (by simp) ?_
              refine AllReadyH.cons rfl (fun K hK => ?_) AllReadyH.nil
              · skip
                go_simp
                go_at_call 39; refine (ReadRelease_S _ _ _ _ _ _ _ hn hm _ HJ).mono ?_; rintro e w157 ⟨rfl, hb157⟩
                go_wp2_with fail
                refine hK.out _ _ (⟨Blk.step hb157 hHeld.1, Blk.step hb157 hHeld.2.1, Blk.step hb157 hHeld.2.2⟩) (fun hHeld => ?_)
                clear hK K
                try simp only [Act.put, List.setIfInBounds_toArray, List.set_cons_zero, List.set_cons_succ]
                replace hbel := Bel.step hb157 hbel
                replace hsz : w1.heap.size ≤ w157.heap.size := Nat.le_trans hsz hb157.size
                replace HA11 := Blk.step hb157 HA11
                replace HA12 := Blk.step hb157 HA12
                replace HJ := Ints.step hb157 HJ
                clear HJ
                clear hb157
                refine wpAnyH_take (i := 7) (v := (.tuple #[.agg #[.int .i64 (rl0 R ud ut vd vt), .int .i64 (rl1 R ud ut vd vt)], .agg #[.int .i64 (rl2 R ud ut vd vt), .int .i64 (rl3 R ud ut vd vt)], .int .i64 (rlC R ud ut vd vt)])) rfl (by kernel_rfl) (by kernel_rfl) (by kernel_rfl) (fun _ _ _ h => h) (Or.inl ⟨by rfl, fun w _ => by simp [go_sem, execOp]⟩) hHeld ?_
                try simp only [Act.put, List.setIfInBounds_toArray, List.set_cons_zero, List.set_cons_succ]
                refine wpAnyH_take (i := 8) (v := (.agg #[.int .i64 (rl0 R ud ut vd vt), .int .i64 (rl1 R ud ut vd vt)])) rfl (by kernel_rfl) (by kernel_rfl) (by kernel_rfl) (fun _ _ _ h => h) (Or.inl ⟨by rfl, fun w _ => by simp [go_sem, execOp]⟩) hHeld ?_
                try simp only [Act.put, List.setIfInBounds_toArray, List.set_cons_zero, List.set_cons_succ]
                refine wpAnyH_take (i := 9) (v := (.agg #[.int .i64 (rl2 R ud ut vd vt), .int .i64 (rl3 R ud ut vd vt)])) rfl (by kernel_rfl) (by kernel_rfl) (by kernel_rfl) (fun _ _ _ h => h) (Or.inl ⟨by rfl, fun w _ => by simp [go_sem, execOp]⟩) hHeld ?_
                try simp only [Act.put, List.setIfInBounds_toArray, List.set_cons_zero, List.set_cons_succ]
                refine wpAnyH_take (i := 10) (v := (.int .i64 (rlC R ud ut vd vt))) rfl (by kernel_rfl) (by kernel_rfl) (by kernel_rfl) (fun _ _ _ h => h) (Or.inl ⟨by rfl, fun w _ => by simp [go_sem, execOp]⟩) hHeld ?_
                try simp only [Act.put, List.setIfInBounds_toArray, List.set_cons_zero, List.set_cons_succ]
                exact key.out _ _ _ _ (And.intro hHeld (And.intro hbel (And.intro HA11 (And.intro hlo11 (And.intro HA12 (And.intro hlo12 (hne)))))))
          · skip
            go_simp
            refine hK.out _ _ (⟨Blk.alloc _ hHeld.1, Blk.alloc _ hHeld.2.1, Blk.alloc _ hHeld.2.2⟩) (fun hHeld => ?_)
            clear hK K
            try simp only [Act.put, List.setIfInBounds_toArray, List.set_cons_zero, List.set_cons_succ]
            have HA11 := Blk.new w152 34 #[.int .i64 0, .int .i64 0]
            have hlt := HA12.lt
            have hne : w152.heap.size ≠ a12 := by omega
            replace HA12 : Blk (w152.alloc (.cells #[.int .i64 0, .int .i64 0] 34)) a12 34 #[.int .i64 0, .int .i64 0] := Blk.alloc _ HA12
            clear hlt
            have hlo11 : w1.heap.size ≤ w152.heap.size := hsz
            replace hbel : Below w.heap.size w (w152.alloc (.cells #[.int .i64 0, .int .i64 0] 34)) := Bel.alloc hbel _
            replace hsz : w1.heap.size ≤ (w152.alloc (.cells #[.int .i64 0, .int .i64 0] 34)).heap.size := by simp only [World.size_alloc]; omega
            replace HJ := Ints.alloc (.cells #[.int .i64 0, .int .i64 0] 34) HJ
            generalize (w152.alloc (.cells #[.int .i64 0, .int .i64 0] 34)) = w158 at hHeld hbel hsz HA11 hlo11 HA12 hne HJ ⊢
            generalize w152.heap.size = a11 at HA11 hlo11 hne ⊢
            refine wpAnyH_ready (rs := [5]) (by kernel_rfl) (by simp) ?_
            refine AllReadyH.cons rfl (fun K hK => ?_) AllReadyH.nil
            · skip
              go_simp
              go_at_call 30; refine (toFigure_c vd vt _).mono ?_; rintro e w159 ⟨rfl, hb159⟩
              go_wp2_with fail
              refine hK.out _ _ (⟨Blk.step hb159 hHeld.1, Blk.step hb159 hHeld.2.1, Blk.step hb159 hHeld.2.2⟩) (fun hHeld => ?_)
              clear hK K
              try simp only [Act.put, List.setIfInBounds_toArray, List.set_cons_zero, List.set_cons_succ]
              replace hbel := Bel.step hb159 hbel
              replace hsz : w1.heap.size ≤ w159.heap.size := Nat.le_trans hsz hb159.size
              replace HA11 := Blk.step hb159 HA11
              replace HA12 := Blk.step hb159 HA12
              replace HJ := Ints.step hb159 HJ
              clear hb159
              refine wpAnyH_ready (rs := [6]) (by kernel_rfl) (by simp) ?_
              refine AllReadyH.cons rfl (fun K hK => ?_) AllReadyH.nil
              · skip
                go_simp
                go_at_call 39; refine (ReadRelease_S _ _ _ _ _ _ _ hn hm _ HJ).mono ?_; rintro e w160 ⟨rfl, hb160⟩
                go_wp2_with fail
                refine hK.out _ _ (⟨Blk.step hb160 hHeld.1, Blk.step hb160 hHeld.2.1, Blk.step hb160 hHeld.2.2⟩) (fun hHeld => ?_)
                clear hK K
                try simp only [Act.put, List.setIfInBounds_toArray, List.set_cons_zero, List.set_cons_succ]
                replace hbel := Bel.step hb160 hbel
                replace hsz : w1.heap.size ≤ w160.heap.size := Nat.le_trans hsz hb160.size
                replace HA11 := Blk.step hb160 HA11
                replace HA12 := Blk.step hb160 HA12
                replace HJ := Ints.step hb160 HJ
                clear HJ
                clear hb160
                refine wpAnyH_take (i := 7) (v := (.tuple #[.agg #[.int .i64 (rl0 R ud ut vd vt), .int .i64 (rl1 R ud ut vd vt)], .agg #[.int .i64 (rl2 R ud ut vd vt), .int .i64 (rl3 R ud ut vd vt)], .int .i64 (rlC R ud ut vd vt)])) rfl (by kernel_rfl) (by kernel_rfl) (by kernel_rfl) (fun _ _ _ h => h) (Or.inl ⟨by rfl, fun w _ => by simp [go_sem, execOp]⟩) hHeld ?_
                try simp only [Act.put, List.setIfInBounds_toArray, List.set_cons_zero, List.set_cons_succ]
                refine wpAnyH_take (i := 8) (v := (.agg #[.int .i64 (rl0 R ud ut vd vt), .int .i64 (rl1 R ud ut vd vt)])) rfl (by kernel_rfl) (by kernel_rfl) (by kernel_rfl) (fun _ _ _ h => h) (Or.inl ⟨by rfl, fun w _ => by simp [go_sem, execOp]⟩) hHeld ?_
                try simp only [Act.put, List.setIfInBounds_toArray, List.set_cons_zero, List.set_cons_succ]
                refine wpAnyH_take (i := 9) (v := (.agg #[.int .i64 (rl2 R ud ut vd vt), .int .i64 (rl3 R ud ut vd vt)])) rfl (by kernel_rfl) (by kernel_rfl) (by kernel_rfl) (fun _ _ _ h => h) (Or.inl ⟨by rfl, fun w _ => by simp [go_sem, execOp]⟩) hHeld ?_
                try simp only [Act.put, List.setIfInBounds_toArray, List.set_cons_zero, List.set_cons_succ]
                refine wpAnyH_take (i := 10) (v := (.int .i64 (rlC R ud ut vd vt))) rfl (by kernel_rfl) (by kernel_rfl) (by kernel_rfl) (fun _ _ _ h => h) (Or.inl ⟨by rfl, fun w _ => by simp [go_sem, execOp]⟩) hHeld ?_
                try simp only [Act.put, List.setIfInBounds_toArray, List.set_cons_zero, List.set_cons_succ]
                exact key.out _ _ _ _ (And.intro hHeld (And.intro hbel (And.intro HA11 (And.intro hlo11 (And.intro HA12 (And.intro hlo12 (hne)))))))
        · skip
          go_simp
          refine hK.out _ _ (⟨Blk.alloc _ hHeld.1, Blk.alloc _ hHeld.2.1, Blk.alloc _ hHeld.2.2⟩) (fun hHeld => ?_)
          clear hK K
          try simp only [Act.put, List.setIfInBounds_toArray, List.set_cons_zero, List.set_cons_succ]
          have HA11 := Blk.new w151 34 #[.int .i64 0, .int .i64 0]
          have hlt := HA12.lt
          have hne : w151.heap.size ≠ a12 := by omega
          replace HA12 : Blk (w151.alloc (.cells #[.int .i64 0, .int .i64 0] 34)) a12 34 #[.int .i64 0, .int .i64 0] := Blk.alloc _ HA12
          clear hlt
          have hlo11 : w1.heap.size ≤ w151.heap.size := hsz
          replace hbel : Below w.heap.size w (w151.alloc (.cells #[.int .i64 0, .int .i64 0] 34)) := Bel.alloc hbel _
          replace hsz : w1.heap.size ≤ (w151.alloc (.cells #[.int .i64 0, .int .i64 0] 34)).heap.size := by simp only [World.size_alloc]; omega
          replace HJ := Ints.alloc (.cells #[.int .i64 0, .int .i64 0] 34) HJ
          generalize (w151.alloc (.cells #[.int .i64 0, .int .i64 0] 34)) = w161 at hHeld hbel hsz HA11 hlo11 HA12 hne HJ ⊢
          generalize w151.heap.size = a11 at HA11 hlo11 hne ⊢
          refine wpAnyH_ready (rs := [3]) (by kernel_rfl) (by simp) ?_
          refine AllReadyH.cons rfl (fun K hK => ?_) AllReadyH.nil
          · skip
            go_simp
            go_at_call 30; refine (toFigure_c ud ut _).mono ?_; rintro e w162 ⟨rfl, hb162⟩
            go_wp2_with fail
            refine hK.out _ _ (⟨Blk.step hb162 hHeld.1, Blk.step hb162 hHeld.2.1, Blk.step hb162 hHeld.2.2⟩) (fun hHeld => ?_)
            clear hK K
            try simp only [Act.put, List.setIfInBounds_toArray, List.set_cons_zero, List.set_cons_succ]
            replace hbel := Bel.step hb162 hbel
            replace hsz : w1.heap.size ≤ w162.heap.size := Nat.le_trans hsz hb162.size
            replace HA11 := Blk.step hb162 HA11
            replace HA12 := Blk.step hb162 HA12
            replace HJ := Ints.step hb162 HJ
            clear hb162
            refine wpAnyH_ready (rs := [5]) (by kernel_rfl) (by simp) ?_
            refine AllReadyH.cons rfl (fun K hK => ?_) AllReadyH.nil
            · skip
              go_simp
              go_at_call 30; refine (toFigure_c vd vt _).mono ?_; rintro e w163 ⟨rfl, hb163⟩
              go_wp2_with fail
              refine hK.out _ _ (⟨Blk.step hb163 hHeld.1, Blk.step hb163 hHeld.2.1, Blk.step hb163 hHeld.2.2⟩) (fun hHeld => ?_)
              clear hK K
              try simp only [Act.put, List.setIfInBounds_toArray, List.set_cons_zero, List.set_cons_succ]
              replace hbel := Bel.step hb163 hbel
              replace hsz : w1.heap.size ≤ w163.heap.size := Nat.le_trans hsz hb163.size
              replace HA11 := Blk.step hb163 HA11
              replace HA12 := Blk.step hb163 HA12
              replace HJ := Ints.step hb163 HJ
              clear hb163
              refine wpAnyH_ready (rs := [6]) (by kernel_rfl) (by simp) ?_
              refine AllReadyH.cons rfl (fun K hK => ?_) AllReadyH.nil
              · skip
                go_simp
                go_at_call 39; refine (ReadRelease_S _ _ _ _ _ _ _ hn hm _ HJ).mono ?_; rintro e w164 ⟨rfl, hb164⟩
                go_wp2_with fail
                refine hK.out _ _ (⟨Blk.step hb164 hHeld.1, Blk.step hb164 hHeld.2.1, Blk.step hb164 hHeld.2.2⟩) (fun hHeld => ?_)
                clear hK K
                try simp only [Act.put, List.setIfInBounds_toArray, List.set_cons_zero, List.set_cons_succ]
                replace hbel := Bel.step hb164 hbel
                replace hsz : w1.heap.size ≤ w164.heap.size := Nat.le_trans hsz hb164.size
                replace HA11 := Blk.step hb164 HA11
                replace HA12 := Blk.step hb164 HA12
                replace HJ := Ints.step hb164 HJ
                clear HJ
                clear hb164
                refine wpAnyH_take (i := 7) (v := (.tuple #[.agg #[.int .i64 (rl0 R ud ut vd vt), .int .i64 (rl1 R ud ut vd vt)], .agg #[.int .i64 (rl2 R ud ut vd vt), .int .i64 (rl3 R ud ut vd vt)], .int .i64 (rlC R ud ut vd vt)])) rfl (by kernel_rfl) (by kernel_rfl) (by kernel_rfl) (fun _ _ _ h => h) (Or.inl ⟨by rfl, fun w _ => by simp [go_sem, execOp]⟩) hHeld ?_
                try simp only [Act.put, List.setIfInBounds_toArray, List.set_cons_zero, List.set_cons_succ]
                refine wpAnyH_take (i := 8) (v := (.agg #[.int .i64 (rl0 R ud ut vd vt), .int .i64 (rl1 R ud ut vd vt)])) rfl (by kernel_rfl) (by kernel_rfl) (by kernel_rfl) (fun _ _ _ h => h) (Or.inl ⟨by rfl, fun w _ => by simp [go_sem, execOp]⟩) hHeld ?_
                try simp only [Act.put, List.setIfInBounds_toArray, List.set_cons_zero, List.set_cons_succ]
                refine wpAnyH_take (i := 9) (v := (.agg #[.int .i64 (rl2 R ud ut vd vt), .int .i64 (rl3 R ud ut vd vt)])) rfl (by kernel_rfl) (by kernel_rfl) (by kernel_rfl) (fun _ _ _ h => h) (Or.inl ⟨by rfl, fun w _ => by simp [go_sem, execOp]⟩) hHeld ?_
                try simp only [Act.put, List.setIfInBounds_toArray, List.set_cons_zero, List.set_cons_succ]
                refine wpAnyH_take (i := 10) (v := (.int .i64 (rlC R ud ut vd vt))) rfl (by kernel_rfl) (by kernel_rfl) (by kernel_rfl) (fun _ _ _ h => h) (Or.inl ⟨by rfl, fun w _ => by simp [go_sem, execOp]⟩) hHeld ?_
                try simp only [Act.put, List.setIfInBounds_toArray, List.set_cons_zero, List.set_cons_succ]
                exact key.out _ _ _ _ (And.intro hHeld (And.intro hbel (And.intro HA11 (And.intro hlo11 (And.intro HA12 (And.intro hlo12 (hne)))))))
    · skip
      go_simp
      refine hK.out _ _ (⟨Blk.alloc _ hHeld.1, Blk.alloc _ hHeld.2.1, Blk.alloc _ hHeld.2.2⟩) (fun hHeld => ?_)
      clear hK K
      try simp only [Act.put, List.setIfInBounds_toArray, List.set_cons_zero, List.set_cons_succ]
      have HA11 := Blk.new wA 34 #[.int .i64 0, .int .i64 0]
      have hlo11 : w1.heap.size ≤ wA.heap.size := hsz
      replace hbel : Below w.heap.size w (wA.alloc (.cells #[.int .i64 0, .int .i64 0] 34)) := Bel.alloc hbel _
      replace hsz : w1.heap.size ≤ (wA.alloc (.cells #[.int .i64 0, .int .i64 0] 34)).heap.size := by simp only [World.size_alloc]; omega
      generalize (wA.alloc (.cells #[.int .i64 0, .int .i64 0] 34)) = w165 at hHeld hbel hsz HA11 hlo11 ⊢
      generalize wA.heap.size = a11 at HA11 hlo11 ⊢
      refine wpAnyH_ready (rs := [1, 12]) (by kernel_rfl) (by simp) ?_
      refine AllReadyH.cons rfl (fun K hK => ?_) (AllReadyH.cons rfl (fun K hK => ?_) AllReadyH.nil)
      · skip
        go_simp
        go_at_call 29; refine (toRelease_c _ _ _ hn _ (Ints.step hbel hA)).mono ?_; rintro e w166 ⟨g166, rfl, hg166, hB166, hb166⟩
        go_wp2_with fail
        refine hK.out _ _ (⟨Blk.step hb166 hHeld.1, Blk.step hb166 hHeld.2.1, Blk.step hb166 hHeld.2.2⟩) (fun hHeld => ?_)
        clear hK K
        try simp only [Act.put, List.setIfInBounds_toArray, List.set_cons_zero, List.set_cons_succ]
        replace hbel := Bel.step hb166 hbel
        replace hsz : w1.heap.size ≤ w166.heap.size := Nat.le_trans hsz hb166.size
        replace HA11 := Blk.step hb166 HA11
        have HJ := hB166.ints
        generalize g166 = G at HJ hg166 ⊢
        clear hB166 hg166
        clear hb166
        refine wpAnyH_ready (rs := [3, 12]) (by kernel_rfl) (by simp) ?_
        refine AllReadyH.cons rfl (fun K hK => ?_) (AllReadyH.cons rfl (fun K hK => ?_) AllReadyH.nil)
        · skip
          go_simp
          go_at_call 30; refine (toFigure_c ud ut _).mono ?_; rintro e w167 ⟨rfl, hb167⟩
          go_wp2_with fail
          refine hK.out _ _ (⟨Blk.step hb167 hHeld.1, Blk.step hb167 hHeld.2.1, Blk.step hb167 hHeld.2.2⟩) (fun hHeld => ?_)
          clear hK K
          try simp only [Act.put, List.setIfInBounds_toArray, List.set_cons_zero, List.set_cons_succ]
          replace hbel := Bel.step hb167 hbel
          replace hsz : w1.heap.size ≤ w167.heap.size := Nat.le_trans hsz hb167.size
          replace HA11 := Blk.step hb167 HA11
          replace HJ := Ints.step hb167 HJ
          clear hb167
          refine wpAnyH_ready (rs := [5, 12]) (by kernel_rfl) (by simp) ?_
          refine AllReadyH.cons rfl (fun K hK => ?_) (AllReadyH.cons rfl (fun K hK => ?_) AllReadyH.nil)
          · skip
            go_simp
            go_at_call 30; refine (toFigure_c vd vt _).mono ?_; rintro e w168 ⟨rfl, hb168⟩
            go_wp2_with fail
            refine hK.out _ _ (⟨Blk.step hb168 hHeld.1, Blk.step hb168 hHeld.2.1, Blk.step hb168 hHeld.2.2⟩) (fun hHeld => ?_)
            clear hK K
            try simp only [Act.put, List.setIfInBounds_toArray, List.set_cons_zero, List.set_cons_succ]
            replace hbel := Bel.step hb168 hbel
            replace hsz : w1.heap.size ≤ w168.heap.size := Nat.le_trans hsz hb168.size
            replace HA11 := Blk.step hb168 HA11
            replace HJ := Ints.step hb168 HJ
            clear hb168
            refine wpAnyH_ready (rs := [6, 12]) (by kernel_rfl) (by simp) ?_
            refine AllReadyH.cons rfl (fun K hK => ?_) (AllReadyH.cons rfl (fun K hK => ?_) AllReadyH.nil)
            · skip
              go_simp
              go_at_call 39; refine (ReadRelease_S _ _ _ _ _ _ _ hn hm _ HJ).mono ?_; rintro e w169 ⟨rfl, hb169⟩
              go_wp2_with fail
              refine hK.out _ _ (⟨Blk.step hb169 hHeld.1, Blk.step hb169 hHeld.2.1, Blk.step hb169 hHeld.2.2⟩) (fun hHeld => ?_)
              clear hK K
              try simp only [Act.put, List.setIfInBounds_toArray, List.set_cons_zero, List.set_cons_succ]
              replace hbel := Bel.step hb169 hbel
              replace hsz : w1.heap.size ≤ w169.heap.size := Nat.le_trans hsz hb169.size
              replace HA11 := Blk.step hb169 HA11
              replace HJ := Ints.step hb169 HJ
              clear HJ
              clear hb169
              refine wpAnyH_take (i := 7) (v := (.tuple #[.agg #[.int .i64 (rl0 R ud ut vd vt), .int .i64 (rl1 R ud ut vd vt)], .agg #[.int .i64 (rl2 R ud ut vd vt), .int .i64 (rl3 R ud ut vd vt)], .int .i64 (rlC R ud ut vd vt)])) rfl (by kernel_rfl) (by kernel_rfl) (by kernel_rfl) (fun _ _ _ h => h) (Or.inl ⟨by rfl, fun w _ => by simp [go_sem, execOp]⟩) hHeld ?_
              try simp only [Act.put, List.setIfInBounds_toArray, List.set_cons_zero, List.set_cons_succ]
              refine wpAnyH_take (i := 8) (v := (.agg #[.int .i64 (rl0 R ud ut vd vt), .int .i64 (rl1 R ud ut vd vt)])) rfl (by kernel_rfl) (by kernel_rfl) (by kernel_rfl) (fun _ _ _ h => h) (Or.inl ⟨by rfl, fun w _ => by simp [go_sem, execOp]⟩) hHeld ?_
              try simp only [Act.put, List.setIfInBounds_toArray, List.set_cons_zero, List.set_cons_succ]
              refine wpAnyH_take (i := 9) (v := (.agg #[.int .i64 (rl2 R ud ut vd vt), .int .i64 (rl3 R ud ut vd vt)])) rfl (by kernel_rfl) (by kernel_rfl) (by kernel_rfl) (fun _ _ _ h => h) (Or.inl ⟨by rfl, fun w _ => by simp [go_sem, execOp]⟩) hHeld ?_
              try simp only [Act.put, List.setIfInBounds_toArray, List.set_cons_zero, List.set_cons_succ]
              refine wpAnyH_take (i := 10) (v := (.int .i64 (rlC R ud ut vd vt))) rfl (by kernel_rfl) (by kernel_rfl) (by kernel_rfl) (fun _ _ _ h => h) (Or.inl ⟨by rfl, fun w _ => by simp [go_sem, execOp]⟩) hHeld ?_
              try simp only [Act.put, List.setIfInBounds_toArray, List.set_cons_zero, List.set_cons_succ]
              refine wpAnyH_ready (rs := [12]) (by kernel_rfl) (by simp) ?_
              refine AllReadyH.cons rfl (fun K hK => ?_) AllReadyH.nil
              · skip
                go_simp
                refine hK.out _ _ (⟨Blk.alloc _ hHeld.1, Blk.alloc _ hHeld.2.1, Blk.alloc _ hHeld.2.2⟩) (fun hHeld => ?_)
                clear hK K
                try simp only [Act.put, List.setIfInBounds_toArray, List.set_cons_zero, List.set_cons_succ]
                have HA12 := Blk.new w169 34 #[.int .i64 0, .int .i64 0]
                have hlt := HA11.lt
                have hne : a11 ≠ w169.heap.size := by omega
                replace HA11 : Blk (w169.alloc (.cells #[.int .i64 0, .int .i64 0] 34)) a11 34 #[.int .i64 0, .int .i64 0] := Blk.alloc _ HA11
                clear hlt
                have hlo12 : w1.heap.size ≤ w169.heap.size := hsz
                replace hbel : Below w.heap.size w (w169.alloc (.cells #[.int .i64 0, .int .i64 0] 34)) := Bel.alloc hbel _
                replace hsz : w1.heap.size ≤ (w169.alloc (.cells #[.int .i64 0, .int .i64 0] 34)).heap.size := by simp only [World.size_alloc]; omega
                generalize (w169.alloc (.cells #[.int .i64 0, .int .i64 0] 34)) = w170 at hHeld hbel hsz HA12 hlo12 HA11 hne ⊢
                generalize w169.heap.size = a12 at HA12 hlo12 hne ⊢
                exact key.out _ _ _ _ (And.intro hHeld (And.intro hbel (And.intro HA11 (And.intro hlo11 (And.intro HA12 (And.intro hlo12 (hne)))))))
            · skip
              go_simp
              refine hK.out _ _ (⟨Blk.alloc _ hHeld.1, Blk.alloc _ hHeld.2.1, Blk.alloc _ hHeld.2.2⟩) (fun hHeld => ?_)
              clear hK K
              try simp only [Act.put, List.setIfInBounds_toArray, List.set_cons_zero, List.set_cons_succ]
              have HA12 := Blk.new w168 34 #[.int .i64 0, .int .i64 0]
              have hlt := HA11.lt
              have hne : a11 ≠ w168.heap.size := by omega
              replace HA11 : Blk (w168.alloc (.cells #[.int .i64 0, .int .i64 0] 34)) a11 34 #[.int .i64 0, .int .i64 0] := Blk.alloc _ HA11
              clear hlt
              have hlo12 : w1.heap.size ≤ w168.heap.size := hsz
              replace hbel : Below w.heap.size w (w168.alloc (.cells #[.int .i64 0, .int .i64 0] 34)) := Bel.alloc hbel _
              replace hsz : w1.heap.size ≤ (w168.alloc (.cells #[.int .i64 0, .int .i64 0] 34)).heap.size := by simp only [World.size_alloc]; omega
              replace HJ := Ints.alloc (.cells #[.int .i64 0, .int .i64 0] 34) HJ
              generalize (w168.alloc (.cells #[.int .i64 0, .int .i64 0] 34)) = w171 at hHeld hbel hsz HA12 hlo12 HA11 hne HJ ⊢
              generalize w168.heap.size = a12 at HA12 hlo12 hne ⊢
              refine wpAnyH_ready (rs := [6]) (by kernel_rfl) (by simp) ?_
              refine AllReadyH.cons rfl (fun K hK => ?_) AllReadyH.nil
              · skip
                go_simp
                go_at_call 39; refine (ReadRelease_S _ _ _ _ _ _ _ hn hm _ HJ).mono ?_; rintro e w172 ⟨rfl, hb172⟩
                go_wp2_with fail
                refine hK.out _ _ (⟨Blk.step hb172 hHeld.1, Blk.step hb172 hHeld.2.1, Blk.step hb172 hHeld.2.2⟩) (fun hHeld => ?_)
                clear hK K
                try simp only [Act.put, List.setIfInBounds_toArray, List.set_cons_zero, List.set_cons_succ]
                replace hbel := Bel.step hb172 hbel
                replace hsz : w1.heap.size ≤ w172.heap.size := Nat.le_trans hsz hb172.size
                replace HA11 := Blk.step hb172 HA11
                replace HA12 := Blk.step hb172 HA12
                replace HJ := Ints.step hb172 HJ
                clear HJ
                clear hb172
                refine wpAnyH_take (i := 7) (v := (.tuple #[.agg #[.int .i64 (rl0 R ud ut vd vt), .int .i64 (rl1 R ud ut vd vt)], .agg #[.int .i64 (rl2 R ud ut vd vt), .int .i64 (rl3 R ud ut vd vt)], .int .i64 (rlC R ud ut vd vt)])) rfl (by kernel_rfl) (by kernel_rfl) (by kernel_rfl) (fun _ _ _ h => h) (Or.inl ⟨by rfl, fun w _ => by simp [go_sem, execOp]⟩) hHeld ?_
                try simp only [Act.put, List.setIfInBounds_toArray, List.set_cons_zero, List.set_cons_succ]
                refine wpAnyH_take (i := 8) (v := (.agg #[.int .i64 (rl0 R ud ut vd vt), .int .i64 (rl1 R ud ut vd vt)])) rfl (by kernel_rfl) (by kernel_rfl) (by kernel_rfl) (fun _ _ _ h => h) (Or.inl ⟨by rfl, fun w _ => by simp [go_sem, execOp]⟩) hHeld ?_
                try simp only [Act.put, List.setIfInBounds_toArray, List.set_cons_zero, List.set_cons_succ]
                refine wpAnyH_take (i := 9) (v := (.agg #[.int .i64 (rl2 R ud ut vd vt), .int .i64 (rl3 R ud ut vd vt)])) rfl (by kernel_rfl) (by kernel_rfl) (by kernel_rfl) (fun _ _ _ h => h) (Or.inl ⟨by rfl, fun w _ => by simp [go_sem, execOp]⟩) hHeld ?_
                try simp only [Act.put, List.setIfInBounds_toArray, List.set_cons_zero, List.set_cons_succ]
                refine wpAnyH_take (i := 10) (v := (.int .i64 (rlC R ud ut vd vt))) rfl (by kernel_rfl) (by kernel_rfl) (by kernel_rfl) (fun _ _ _ h => h) (Or.inl ⟨by rfl, fun w _ => by simp [go_sem, execOp]⟩) hHeld ?_
                try simp only [Act.put, List.setIfInBounds_toArray, List.set_cons_zero, List.set_cons_succ]
                exact key.out _ _ _ _ (And.intro hHeld (And.intro hbel (And.intro HA11 (And.intro hlo11 (And.intro HA12 (And.intro hlo12 (hne)))))))
          · skip
            go_simp
            refine hK.out _ _ (⟨Blk.alloc _ hHeld.1, Blk.alloc _ hHeld.2.1, Blk.alloc _ hHeld.2.2⟩) (fun hHeld => ?_)
            clear hK K
            try simp only [Act.put, List.setIfInBounds_toArray, List.set_cons_zero, List.set_cons_succ]
            have HA12 := Blk.new w167 34 #[.int .i64 0, .int .i64 0]
            have hlt := HA11.lt
            have hne : a11 ≠ w167.heap.size := by omega
            replace HA11 : Blk (w167.alloc (.cells #[.int .i64 0, .int .i64 0] 34)) a11 34 #[.int .i64 0, .int .i64 0] := Blk.alloc _ HA11
            clear hlt
            have hlo12 : w1.heap.size ≤ w167.heap.size := hsz
            replace hbel : Below w.heap.size w (w167.alloc (.cells #[.int .i64 0, .int .i64 0] 34)) := Bel.alloc hbel _
            replace hsz : w1.heap.size ≤ (w167.alloc (.cells #[.int .i64 0, .int .i64 0] 34)).heap.size := by simp only [World.size_alloc]; omega
            replace HJ := Ints.alloc (.cells #[.int .i64 0, .int .i64 0] 34) HJ
            generalize (w167.alloc (.cells #[.int .i64 0, .int .i64 0] 34)) = w173 at hHeld hbel hsz HA12 hlo12 HA11 hne HJ ⊢
            generalize w167.heap.size = a12 at HA12 hlo12 hne ⊢
            refine wpAnyH_ready (rs := [5]) (by kernel_rfl) (by simp) ?_
            refine AllReadyH.cons rfl (fun K hK => ?_) AllReadyH.nil
            · skip
              go_simp
              go_at_call 30; refine (toFigure_c vd vt _).mono ?_; rintro e w174 ⟨rfl, hb174⟩
              go_wp2_with fail
              refine hK.out _ _ (⟨Blk.step hb174 hHeld.1, Blk.step hb174 hHeld.2.1, Blk.step hb174 hHeld.2.2⟩) (fun hHeld => ?_)
              clear hK K
              try simp only [Act.put, List.setIfInBounds_toArray, List.set_cons_zero, List.set_cons_succ]
              replace hbel := Bel.step hb174 hbel
              replace hsz : w1.heap.size ≤ w174.heap.size := Nat.le_trans hsz hb174.size
              replace HA11 := Blk.step hb174 HA11
              replace HA12 := Blk.step hb174 HA12
              replace HJ := Ints.step hb174 HJ
              clear hb174
              refine wpAnyH_ready (rs := [6]) (by kernel_rfl) (by simp) ?_
              refine AllReadyH.cons rfl (fun K hK => ?_) AllReadyH.nil
              · skip
                go_simp
                go_at_call 39; refine (ReadRelease_S _ _ _ _ _ _ _ hn hm _ HJ).mono ?_; rintro e w175 ⟨rfl, hb175⟩
                go_wp2_with fail
                refine hK.out _ _ (⟨Blk.step hb175 hHeld.1, Blk.step hb175 hHeld.2.1, Blk.step hb175 hHeld.2.2⟩) (fun hHeld => ?_)
                clear hK K
                try simp only [Act.put, List.setIfInBounds_toArray, List.set_cons_zero, List.set_cons_succ]
                replace hbel := Bel.step hb175 hbel
                replace hsz : w1.heap.size ≤ w175.heap.size := Nat.le_trans hsz hb175.size
                replace HA11 := Blk.step hb175 HA11
                replace HA12 := Blk.step hb175 HA12
                replace HJ := Ints.step hb175 HJ
                clear HJ
                clear hb175
                refine wpAnyH_take (i := 7) (v := (.tuple #[.agg #[.int .i64 (rl0 R ud ut vd vt), .int .i64 (rl1 R ud ut vd vt)], .agg #[.int .i64 (rl2 R ud ut vd vt), .int .i64 (rl3 R ud ut vd vt)], .int .i64 (rlC R ud ut vd vt)])) rfl (by kernel_rfl) (by kernel_rfl) (by kernel_rfl) (fun _ _ _ h => h) (Or.inl ⟨by rfl, fun w _ => by simp [go_sem, execOp]⟩) hHeld ?_
                try simp only [Act.put, List.setIfInBounds_toArray, List.set_cons_zero, List.set_cons_succ]
                refine wpAnyH_take (i := 8) (v := (.agg #[.int .i64 (rl0 R ud ut vd vt), .int .i64 (rl1 R ud ut vd vt)])) rfl (by kernel_rfl) (by kernel_rfl) (by kernel_rfl) (fun _ _ _ h => h) (Or.inl ⟨by rfl, fun w _ => by simp [go_sem, execOp]⟩) hHeld ?_
                try simp only [Act.put, List.setIfInBounds_toArray, List.set_cons_zero, List.set_cons_succ]
                refine wpAnyH_take (i := 9) (v := (.agg #[.int .i64 (rl2 R ud ut vd vt), .int .i64 (rl3 R ud ut vd vt)])) rfl (by kernel_rfl) (by kernel_rfl) (by kernel_rfl) (fun _ _ _ h => h) (Or.inl ⟨by rfl, fun w _ => by simp [go_sem, execOp]⟩) hHeld ?_
                try simp only [Act.put, List.setIfInBounds_toArray, List.set_cons_zero, List.set_cons_succ]
                refine wpAnyH_take (i := 10) (v := (.int .i64 (rlC R ud ut vd vt))) rfl (by kernel_rfl) (by kernel_rfl) (by kernel_rfl) (fun _ _ _ h => h) (Or.inl ⟨by rfl, fun w _ => by simp [go_sem, execOp]⟩) hHeld ?_
                try simp only [Act.put, List.setIfInBounds_toArray, List.set_cons_zero, List.set_cons_succ]
                exact key.out _ _ _ _ (And.intro hHeld (And.intro hbel (And.intro HA11 (And.intro hlo11 (And.intro HA12 (And.intro hlo12 (hne)))))))
        · skip
          go_simp
          refine hK.out _ _ (⟨Blk.alloc _ hHeld.1, Blk.alloc _ hHeld.2.1, Blk.alloc _ hHeld.2.2⟩) (fun hHeld => ?_)
          clear hK K
          try simp only [Act.put, List.setIfInBounds_toArray, List.set_cons_zero, List.set_cons_succ]
          have HA12 := Blk.new w166 34 #[.int .i64 0, .int .i64 0]
          have hlt := HA11.lt
          have hne : a11 ≠ w166.heap.size := by omega
          replace HA11 : Blk (w166.alloc (.cells #[.int .i64 0, .int .i64 0] 34)) a11 34 #[.int .i64 0, .int .i64 0] := Blk.alloc _ HA11
          clear hlt
          have hlo12 : w1.heap.size ≤ w166.heap.size := hsz
          replace hbel : Below w.heap.size w (w166.alloc (.cells #[.int .i64 0, .int .i64 0] 34)) := Bel.alloc hbel _
          replace hsz : w1.heap.size ≤ (w166.alloc (.cells #[.int .i64 0, .int .i64 0] 34)).heap.size := by simp only [World.size_alloc]; omega
          replace HJ := Ints.alloc (.cells #[.int .i64 0, .int .i64 0] 34) HJ
          generalize (w166.alloc (.cells #[.int .i64 0, .int .i64 0] 34)) = w176 at hHeld hbel hsz HA12 hlo12 HA11 hne HJ ⊢
          generalize w166.heap.size = a12 at HA12 hlo12 hne ⊢
          refine wpAnyH_ready (rs := [3]) (by kernel_rfl) (by simp) ?_
          refine AllReadyH.cons rfl (fun K hK => ?_) AllReadyH.nil
          · skip
            go_simp
            go_at_call 30; refine (toFigure_c ud ut _).mono ?_; rintro e w177 ⟨rfl, hb177⟩
            go_wp2_with fail
            refine hK.out _ _ (⟨Blk.step hb177 hHeld.1, Blk.step hb177 hHeld.2.1, Blk.step hb177 hHeld.2.2⟩) (fun hHeld => ?_)
            clear hK K
            try simp only [Act.put, List.setIfInBounds_toArray, List.set_cons_zero, List.set_cons_succ]
            replace hbel := Bel.step hb177 hbel
            replace hsz : w1.heap.size ≤ w177.heap.size := Nat.le_trans hsz hb177.size
            replace HA11 := Blk.step hb177 HA11
            replace HA12 := Blk.step hb177 HA12
            replace HJ := Ints.step hb177 HJ
            clear hb177
            refine wpAnyH_ready (rs := [5]) (by kernel_rfl) (by simp) ?_
            refine AllReadyH.cons rfl (fun K hK => ?_) AllReadyH.nil
            · skip
              go_simp
              go_at_call 30; refine (toFigure_c vd vt _).mono ?_; rintro e w178 ⟨rfl, hb178⟩
              go_wp2_with fail
              refine hK.out _ _ (⟨Blk.step hb178 hHeld.1, Blk.step hb178 hHeld.2.1, Blk.step hb178 hHeld.2.2⟩) (fun hHeld => ?_)
              clear hK K
              try simp only [Act.put, List.setIfInBounds_toArray, List.set_cons_zero, List.set_cons_succ]
              replace hbel := Bel.step hb178 hbel
              replace hsz : w1.heap.size ≤ w178.heap.size := Nat.le_trans hsz hb178.size
              replace HA11 := Blk.step hb178 HA11
              replace HA12 := Blk.step hb178 HA12
              replace HJ := Ints.step hb178 HJ
              clear hb178
              refine wpAnyH_ready (rs := [6]) (by kernel_rfl) (by simp) ?_
              refine AllReadyH.cons rfl (fun K hK => ?_) AllReadyH.nil
              · skip
                go_simp
                go_at_call 39; refine (ReadRelease_S _ _ _ _ _ _ _ hn hm _ HJ).mono ?_; rintro e w179 ⟨rfl, hb179⟩
                go_wp2_with fail
                refine hK.out _ _ (⟨Blk.step hb179 hHeld.1, Blk.step hb179 hHeld.2.1, Blk.step hb179 hHeld.2.2⟩) (fun hHeld => ?_)
                clear hK K
                try simp only [Act.put, List.setIfInBounds_toArray, List.set_cons_zero, List.set_cons_succ]
                replace hbel := Bel.step hb179 hbel
                replace hsz : w1.heap.size ≤ w179.heap.size := Nat.le_trans hsz hb179.size
                replace HA11 := Blk.step hb179 HA11
                replace HA12 := Blk.step hb179 HA12
                replace HJ := Ints.step hb179 HJ
                clear HJ
                clear hb179
                refine wpAnyH_take (i := 7) (v := (.tuple #[.agg #[.int .i64 (rl0 R ud ut vd vt), .int .i64 (rl1 R ud ut vd vt)], .agg #[.int .i64 (rl2 R ud ut vd vt), .int .i64 (rl3 R ud ut vd vt)], .int .i64 (rlC R ud ut vd vt)])) rfl (by kernel_rfl) (by kernel_rfl) (by kernel_rfl) (fun _ _ _ h => h) (Or.inl ⟨by rfl, fun w _ => by simp [go_sem, execOp]⟩) hHeld ?_
                try simp only [Act.put, List.setIfInBounds_toArray, List.set_cons_zero, List.set_cons_succ]
                refine wpAnyH_take (i := 8) (v := (.agg #[.int .i64 (rl0 R ud ut vd vt), .int .i64 (rl1 R ud ut vd vt)])) rfl (by kernel_rfl) (by kernel_rfl) (by kernel_rfl) (fun _ _ _ h => h) (Or.inl ⟨by rfl, fun w _ => by simp [go_sem, execOp]⟩) hHeld ?_
                try simp only [Act.put, List.setIfInBounds_toArray, List.set_cons_zero, List.set_cons_succ]
                refine wpAnyH_take (i := 9) (v := (.agg #[.int .i64 (rl2 R ud ut vd vt), .int .i64 (rl3 R ud ut vd vt)])) rfl (by kernel_rfl) (by kernel_rfl) (by kernel_rfl) (fun _ _ _ h => h) (Or.inl ⟨by rfl, fun w _ => by simp [go_sem, execOp]⟩) hHeld ?_
                try simp only [Act.put, List.setIfInBounds_toArray, List.set_cons_zero, List.set_cons_succ]
                refine wpAnyH_take (i := 10) (v := (.int .i64 (rlC R ud ut vd vt))) rfl (by kernel_rfl) (by kernel_rfl) (by kernel_rfl) (fun _ _ _ h => h) (Or.inl ⟨by rfl, fun w _ => by simp [go_sem, execOp]⟩) hHeld ?_
                try simp only [Act.put, List.setIfInBounds_toArray, List.set_cons_zero, List.set_cons_succ]
                exact key.out _ _ _ _ (And.intro hHeld (And.intro hbel (And.intro HA11 (And.intro hlo11 (And.intro HA12 (And.intro hlo12 (hne)))))))
      · skip
        go_simp
        refine hK.out _ _ (⟨Blk.alloc _ hHeld.1, Blk.alloc _ hHeld.2.1, Blk.alloc _ hHeld.2.2⟩) (fun hHeld => ?_)
        clear hK K
        try simp only [Act.put, List.setIfInBounds_toArray, List.set_cons_zero, List.set_cons_succ]
        have HA12 := Blk.new w165 34 #[.int .i64 0, .int .i64 0]
        have hlt := HA11.lt
        have hne : a11 ≠ w165.heap.size := by omega
        replace HA11 : Blk (w165.alloc (.cells #[.int .i64 0, .int .i64 0] 34)) a11 34 #[.int .i64 0, .int .i64 0] := Blk.alloc _ HA11
        clear hlt
        have hlo12 : w1.heap.size ≤ w165.heap.size := hsz
        replace hbel : Below w.heap.size w (w165.alloc (.cells #[.int .i64 0, .int .i64 0] 34)) := Bel.alloc hbel _
        replace hsz : w1.heap.size ≤ (w165.alloc (.cells #[.int .i64 0, .int .i64 0] 34)).heap.size := by simp only [World.size_alloc]; omega
        generalize (w165.alloc (.cells #[.int .i64 0, .int .i64 0] 34)) = w180 at hHeld hbel hsz HA12 hlo12 HA11 hne ⊢
        generalize w165.heap.size = a12 at HA12 hlo12 hne ⊢
        refine wpAnyH_ready (rs := [1]) (by kernel_rfl) (by simp) ?_
        refine AllReadyH.cons rfl (fun K hK => ?_) AllReadyH.nil
        · skip
          go_simp
          go_at_call 29; refine (toRelease_c _ _ _ hn _ (Ints.step hbel hA)).mono ?_; rintro e w181 ⟨g181, rfl, hg181, hB181, hb181⟩
          go_wp2_with fail
          refine hK.out _ _ (⟨Blk.step hb181 hHeld.1, Blk.step hb181 hHeld.2.1, Blk.step hb181 hHeld.2.2⟩) (fun hHeld => ?_)
          clear hK K
          try simp only [Act.put, List.setIfInBounds_toArray, List.set_cons_zero, List.set_cons_succ]
          replace hbel := Bel.step hb181 hbel
          replace hsz : w1.heap.size ≤ w181.heap.size := Nat.le_trans hsz hb181.size
          replace HA11 := Blk.step hb181 HA11
          replace HA12 := Blk.step hb181 HA12
          have HJ := hB181.ints
          generalize g181 = G at HJ hg181 ⊢
          clear hB181 hg181
          clear hb181
          refine wpAnyH_ready (rs := [3]) (by kernel_rfl) (by simp) ?_
          refine AllReadyH.cons rfl (fun K hK => ?_) AllReadyH.nil
          · skip
            go_simp
            go_at_call 30; refine (toFigure_c ud ut _).mono ?_; rintro e w182 ⟨rfl, hb182⟩
            go_wp2_with fail
            refine hK.out _ _ (⟨Blk.step hb182 hHeld.1, Blk.step hb182 hHeld.2.1, Blk.step hb182 hHeld.2.2⟩) (fun hHeld => ?_)
            clear hK K
            try simp only [Act.put, List.setIfInBounds_toArray, List.set_cons_zero, List.set_cons_succ]
            replace hbel := Bel.step hb182 hbel
            replace hsz : w1.heap.size ≤ w182.heap.size := Nat.le_trans hsz hb182.size
            replace HA11 := Blk.step hb182 HA11
            replace HA12 := Blk.step hb182 HA12
            replace HJ := Ints.step hb182 HJ
            clear hb182
            refine wpAnyH_ready (rs := [5]) (by kernel_rfl) (by simp) ?_
            refine AllReadyH.cons rfl (fun K hK => ?_) AllReadyH.nil
            · skip
              go_simp
              go_at_call 30; refine (toFigure_c vd vt _).mono ?_; rintro e w183 ⟨rfl, hb183⟩
              go_wp2_with fail
              refine hK.out _ _ (⟨Blk.step hb183 hHeld.1, Blk.step hb183 hHeld.2.1, Blk.step hb183 hHeld.2.2⟩) (fun hHeld => ?_)
              clear hK K
              try simp only [Act.put, List.setIfInBounds_toArray, List.set_cons_zero, List.set_cons_succ]
              replace hbel := Bel.step hb183 hbel
              replace hsz : w1.heap.size ≤ w183.heap.size := Nat.le_trans hsz hb183.size
              replace HA11 := Blk.step hb183 HA11
              replace HA12 := Blk.step hb183 HA12
              replace HJ := Ints.step hb183 HJ
              clear hb183
              refine wpAnyH_ready (rs := [6]) (by kernel_rfl) (by simp) ?_
              refine AllReadyH.cons rfl (fun K hK => ?_) AllReadyH.nil
              · skip
                go_simp
                go_at_call 39; refine (ReadRelease_S _ _ _ _ _ _ _ hn hm _ HJ).mono ?_; rintro e w184 ⟨rfl, hb184⟩
                go_wp2_with fail
                refine hK.out _ _ (⟨Blk.step hb184 hHeld.1, Blk.step hb184 hHeld.2.1, Blk.step hb184 hHeld.2.2⟩) (fun hHeld => ?_)
                clear hK K
                try simp only [Act.put, List.setIfInBounds_toArray, List.set_cons_zero, List.set_cons_succ]
                replace hbel := Bel.step hb184 hbel
                replace hsz : w1.heap.size ≤ w184.heap.size := Nat.le_trans hsz hb184.size
                replace HA11 := Blk.step hb184 HA11
                replace HA12 := Blk.step hb184 HA12
                replace HJ := Ints.step hb184 HJ
                clear HJ
                clear hb184
                refine wpAnyH_take (i := 7) (v := (.tuple #[.agg #[.int .i64 (rl0 R ud ut vd vt), .int .i64 (rl1 R ud ut vd vt)], .agg #[.int .i64 (rl2 R ud ut vd vt), .int .i64 (rl3 R ud ut vd vt)], .int .i64 (rlC R ud ut vd vt)])) rfl (by kernel_rfl) (by kernel_rfl) (by kernel_rfl) (fun _ _ _ h => h) (Or.inl ⟨by rfl, fun w _ => by simp [go_sem, execOp]⟩) hHeld ?_
                try simp only [Act.put, List.setIfInBounds_toArray, List.set_cons_zero, List.set_cons_succ]
                refine wpAnyH_take (i := 8) (v := (.agg #[.int .i64 (rl0 R ud ut vd vt), .int .i64 (rl1 R ud ut vd vt)])) rfl (by kernel_rfl) (by kernel_rfl) (by kernel_rfl) (fun _ _ _ h => h) (Or.inl ⟨by rfl, fun w _ => by simp [go_sem, execOp]⟩) hHeld ?_
                try simp only [Act.put, List.setIfInBounds_toArray, List.set_cons_zero, List.set_cons_succ]
                refine wpAnyH_take (i := 9) (v := (.agg #[.int .i64 (rl2 R ud ut vd vt), .int .i64 (rl3 R ud ut vd vt)])) rfl (by kernel_rfl) (by kernel_rfl) (by kernel_rfl) (fun _ _ _ h => h) (Or.inl ⟨by rfl, fun w _ => by simp [go_sem, execOp]⟩) hHeld ?_
                try simp only [Act.put, List.setIfInBounds_toArray, List.set_cons_zero, List.set_cons_succ]
                refine wpAnyH_take (i := 10) (v := (.int .i64 (rlC R ud ut vd vt))) rfl (by kernel_rfl) (by kernel_rfl) (by kernel_rfl) (fun _ _ _ h => h) (Or.inl ⟨by rfl, fun w _ => by simp [go_sem, execOp]⟩) hHeld ?_
                try simp only [Act.put, List.setIfInBounds_toArray, List.set_cons_zero, List.set_cons_succ]
                exact key.out _ _ _ _ (And.intro hHeld (And.intro hbel (And.intro HA11 (And.intro hlo11 (And.intro HA12 (And.intro hlo12 (hne)))))))
    · skip
      go_simp
      refine hK.out _ _ (⟨Blk.alloc _ hHeld.1, Blk.alloc _ hHeld.2.1, Blk.alloc _ hHeld.2.2⟩) (fun hHeld => ?_)
      clear hK K
      try simp only [Act.put, List.setIfInBounds_toArray, List.set_cons_zero, List.set_cons_succ]
      have HA12 := Blk.new wA 34 #[.int .i64 0, .int .i64 0]
      have hlo12 : w1.heap.size ≤ wA.heap.size := hsz
      replace hbel : Below w.heap.size w (wA.alloc (.cells #[.int .i64 0, .int .i64 0] 34)) := Bel.alloc hbel _
      replace hsz : w1.heap.size ≤ (wA.alloc (.cells #[.int .i64 0, .int .i64 0] 34)).heap.size := by simp only [World.size_alloc]; omega
      generalize (wA.alloc (.cells #[.int .i64 0, .int .i64 0] 34)) = w185 at hHeld hbel hsz HA12 hlo12 ⊢
      generalize wA.heap.size = a12 at HA12 hlo12 ⊢
      refine wpAnyH_ready (rs := [1, 11]) (by kernel_rfl) (by simp) ?_
      refine AllReadyH.cons rfl (fun K hK => ?_) (AllReadyH.cons rfl (fun K hK => ?_) AllReadyH.nil)
      · skip
        go_simp
        go_at_call 29; refine (toRelease_c _ _ _ hn _ (Ints.step hbel hA)).mono ?_; rintro e w186 ⟨g186, rfl, hg186, hB186, hb186⟩
        go_wp2_with fail
        refine hK.out _ _ (⟨Blk.step hb186 hHeld.1, Blk.step hb186 hHeld.2.1, Blk.step hb186 hHeld.2.2⟩) (fun hHeld => ?_)
        clear hK K
        try simp only [Act.put, List.setIfInBounds_toArray, List.set_cons_zero, List.set_cons_succ]
        replace hbel := Bel.step hb186 hbel
        replace hsz : w1.heap.size ≤ w186.heap.size := Nat.le_trans hsz hb186.size
        replace HA12 := Blk.step hb186 HA12
        have HJ := hB186.ints
        generalize g186 = G at HJ hg186 ⊢
        clear hB186 hg186
        clear hb186
        refine wpAnyH_ready (rs := [3, 11]) (by kernel_rfl) (by simp) ?_
        refine AllReadyH.cons rfl (fun K hK => ?_) (AllReadyH.cons rfl (fun K hK => ?_) AllReadyH.nil)
        · skip
          go_simp
          go_at_call 30; refine (toFigure_c ud ut _).mono ?_; rintro e w187 ⟨rfl, hb187⟩
          go_wp2_with fail
          refine hK.out _ _ (⟨Blk.step hb187 hHeld.1, Blk.step hb187 hHeld.2.1, Blk.step hb187 hHeld.2.2⟩) (fun hHeld => ?_)
          clear hK K
          try simp only [Act.put, List.setIfInBounds_toArray, List.set_cons_zero, List.set_cons_succ]
          replace hbel := Bel.step hb187 hbel
          replace hsz : w1.heap.size ≤ w187.heap.size := Nat.le_trans hsz hb187.size
          replace HA12 := Blk.step hb187 HA12
          replace HJ := Ints.step hb187 HJ
          clear hb187
          refine wpAnyH_ready (rs := [5, 11]) (by kernel_rfl) (by simp) ?_
          refine AllReadyH.cons rfl (fun K hK => ?_) (AllReadyH.cons rfl (fun K hK => ?_) AllReadyH.nil)
          · skip
            go_simp
            go_at_call 30; refine (toFigure_c vd vt _).mono ?_; rintro e w188 ⟨rfl, hb188⟩
            go_wp2_with fail
            refine hK.out _ _ (⟨Blk.step hb188 hHeld.1, Blk.step hb188 hHeld.2.1, Blk.step hb188 hHeld.2.2⟩) (fun hHeld => ?_)
            clear hK K
            try simp only [Act.put, List.setIfInBounds_toArray, List.set_cons_zero, List.set_cons_succ]
            replace hbel := Bel.step hb188 hbel
            replace hsz : w1.heap.size ≤ w188.heap.size := Nat.le_trans hsz hb188.size
            replace HA12 := Blk.step hb188 HA12
            replace HJ := Ints.step hb188 HJ
            clear hb188
            refine wpAnyH_ready (rs := [6, 11]) (by kernel_rfl) (by simp) ?_
            refine AllReadyH.cons rfl (fun K hK => ?_) (AllReadyH.cons rfl (fun K hK => ?_) AllReadyH.nil)
            · skip
              go_simp
              go_at_call 39; refine (ReadRelease_S _ _ _ _ _ _ _ hn hm _ HJ).mono ?_; rintro e w189 ⟨rfl, hb189⟩
              go_wp2_with fail
              refine hK.out _ _ (⟨Blk.step hb189 hHeld.1, Blk.step hb189 hHeld.2.1, Blk.step hb189 hHeld.2.2⟩) (fun hHeld => ?_)
              clear hK K
              try simp only [Act.put, List.setIfInBounds_toArray, List.set_cons_zero, List.set_cons_succ]
              replace hbel := Bel.step hb189 hbel
              replace hsz : w1.heap.size ≤ w189.heap.size := Nat.le_trans hsz hb189.size
              replace HA12 := Blk.step hb189 HA12
              replace HJ := Ints.step hb189 HJ
              clear HJ
              clear hb189
              refine wpAnyH_take (i := 7) (v := (.tuple #[.agg #[.int .i64 (rl0 R ud ut vd vt), .int .i64 (rl1 R ud ut vd vt)], .agg #[.int .i64 (rl2 R ud ut vd vt), .int .i64 (rl3 R ud ut vd vt)], .int .i64 (rlC R ud ut vd vt)])) rfl (by kernel_rfl) (by kernel_rfl) (by kernel_rfl) (fun _ _ _ h => h) (Or.inl ⟨by rfl, fun w _ => by simp [go_sem, execOp]⟩) hHeld ?_
              try simp only [Act.put, List.setIfInBounds_toArray, List.set_cons_zero, List.set_cons_succ]
              refine wpAnyH_take (i := 8) (v := (.agg #[.int .i64 (rl0 R ud ut vd vt), .int .i64 (rl1 R ud ut vd vt)])) rfl (by kernel_rfl) (by kernel_rfl) (by kernel_rfl) (fun _ _ _ h => h) (Or.inl ⟨by rfl, fun w _ => by simp [go_sem, execOp]⟩) hHeld ?_
              try simp only [Act.put, List.setIfInBounds_toArray, List.set_cons_zero, List.set_cons_succ]
              refine wpAnyH_take (i := 9) (v := (.agg #[.int .i64 (rl2 R ud ut vd vt), .int .i64 (rl3 R ud ut vd vt)])) rfl (by kernel_rfl) (by kernel_rfl) (by kernel_rfl) (fun _ _ _ h => h) (Or.inl ⟨by rfl, fun w _ => by simp [go_sem, execOp]⟩) hHeld ?_
              try simp only [Act.put, List.setIfInBounds_toArray, List.set_cons_zero, List.set_cons_succ]
              refine wpAnyH_take (i := 10) (v := (.int .i64 (rlC R ud ut vd vt))) rfl (by kernel_rfl) (by kernel_rfl) (by kernel_rfl) (fun _ _ _ h => h) (Or.inl ⟨by rfl, fun w _ => by simp [go_sem, execOp]⟩) hHeld ?_
              try simp only [Act.put, List.setIfInBounds_toArray, List.set_cons_zero, List.set_cons_succ]
              refine wpAnyH_ready (rs := [11]) (by kernel_rfl) (by simp) ?_
              refine AllReadyH.cons rfl (fun K hK => ?_) AllReadyH.nil
              · skip
                go_simp
                refine hK.out _ _ (⟨Blk.alloc _ hHeld.1, Blk.alloc _ hHeld.2.1, Blk.alloc _ hHeld.2.2⟩) (fun hHeld => ?_)
                clear hK K
                try simp only [Act.put, List.setIfInBounds_toArray, List.set_cons_zero, List.set_cons_succ]
                have HA11 := Blk.new w189 34 #[.int .i64 0, .int .i64 0]
                have hlt := HA12.lt
                have hne : w189.heap.size ≠ a12 := by omega
                replace HA12 : Blk (w189.alloc (.cells #[.int .i64 0, .int .i64 0] 34)) a12 34 #[.int .i64 0, .int .i64 0] := Blk.alloc _ HA12
                clear hlt
                have hlo11 : w1.heap.size ≤ w189.heap.size := hsz
                replace hbel : Below w.heap.size w (w189.alloc (.cells #[.int .i64 0, .int .i64 0] 34)) := Bel.alloc hbel _
                replace hsz : w1.heap.size ≤ (w189.alloc (.cells #[.int .i64 0, .int .i64 0] 34)).heap.size := by simp only [World.size_alloc]; omega
                generalize (w189.alloc (.cells #[.int .i64 0, .int .i64 0] 34)) = w190 at hHeld hbel hsz HA11 hlo11 HA12 hne ⊢
                generalize w189.heap.size = a11 at HA11 hlo11 hne ⊢
                exact key.out _ _ _ _ (And.intro hHeld (And.intro hbel (And.intro HA11 (And.intro hlo11 (And.intro HA12 (And.intro hlo12 (hne)))))))
            · skip
              go_simp
              refine hK.out _ _ (⟨Blk.alloc _ hHeld.1, Blk.alloc _ hHeld.2.1, Blk.alloc _ hHeld.2.2⟩) (fun hHeld => ?_)
              clear hK K
              try simp only [Act.put, List.setIfInBounds_toArray, List.set_cons_zero, List.set_cons_succ]
              have HA11 := Blk.new w188 34 #[.int .i64 0, .int .i64 0]
              have hlt := HA12.lt
              have hne : w188.heap.size ≠ a12 := by omega
              replace HA12 : Blk (w188.alloc (.cells #[.int .i64 0, .int .i64 0] 34)) a12 34 #[.int .i64 0, .int .i64 0] := Blk.alloc _ HA12
              clear hlt
              have hlo11 : w1.heap.size ≤ w188.heap.size := hsz
              replace hbel : Below w.heap.size w (w188.alloc (.cells #[.int .i64 0, .int .i64 0] 34)) := Bel.alloc hbel _
              replace hsz : w1.heap.size ≤ (w188.alloc (.cells #[.int .i64 0, .int .i64 0] 34)).heap.size := by simp only [World.size_alloc]; omega
              replace HJ := Ints.alloc (.cells #[.int .i64 0, .int .i64 0] 34) HJ
              generalize (w188.alloc (.cells #[.int .i64 0, .int .i64 0] 34)) = w191 at hHeld hbel hsz HA11 hlo11 HA12 hne HJ ⊢
              generalize w188.heap.size = a11 at HA11 hlo11 hne ⊢
              refine wpAnyH_ready (rs := [6]) (by kernel_rfl) (by simp) ?_
              refine AllReadyH.cons rfl (fun K hK => ?_) AllReadyH.nil
              · skip
                go_simp
                go_at_call 39; refine (ReadRelease_S _ _ _ _ _ _ _ hn hm _ HJ).mono ?_; rintro e w192 ⟨rfl, hb192⟩
                go_wp2_with fail
                refine hK.out _ _ (⟨Blk.step hb192 hHeld.1, Blk.step hb192 hHeld.2.1, Blk.step hb192 hHeld.2.2⟩) (fun hHeld => ?_)
                clear hK K
                try simp only [Act.put, List.setIfInBounds_toArray, List.set_cons_zero, List.set_cons_succ]
                replace hbel := Bel.step hb192 hbel
                replace hsz : w1.heap.size ≤ w192.heap.size := Nat.le_trans hsz hb192.size
                replace HA11 := Blk.step hb192 HA11
                replace HA12 := Blk.step hb192 HA12
                replace HJ := Ints.step hb192 HJ
                clear HJ
                clear hb192
                refine wpAnyH_take (i := 7) (v := (.tuple #[.agg #[.int .i64 (rl0 R ud ut vd vt), .int .i64 (rl1 R ud ut vd vt)], .agg #[.int .i64 (rl2 R ud ut vd vt), .int .i64 (rl3 R ud ut vd vt)], .int .i64 (rlC R ud ut vd vt)])) rfl (by kernel_rfl) (by kernel_rfl) (by kernel_rfl) (fun _ _ _ h => h) (Or.inl ⟨by rfl, fun w _ => by simp [go_sem, execOp]⟩) hHeld ?_
                try simp only [Act.put, List.setIfInBounds_toArray, List.set_cons_zero, List.set_cons_succ]
                refine wpAnyH_take (i := 8) (v := (.agg #[.int .i64 (rl0 R ud ut vd vt), .int .i64 (rl1 R ud ut vd vt)])) rfl (by kernel_rfl) (by kernel_rfl) (by kernel_rfl) (fun _ _ _ h => h) (Or.inl ⟨by rfl, fun w _ => by simp [go_sem, execOp]⟩) hHeld ?_
                try simp only [Act.put, List.setIfInBounds_toArray, List.set_cons_zero, List.set_cons_succ]
                refine wpAnyH_take (i := 9) (v := (.agg #[.int .i64 (rl2 R ud ut vd vt), .int .i64 (rl3 R ud ut vd vt)])) rfl (by kernel_rfl) (by kernel_rfl) (by kernel_rfl) (fun _ _ _ h => h) (Or.inl ⟨by rfl, fun w _ => by simp [go_sem, execOp]⟩) hHeld ?_
                try simp only [Act.put, List.setIfInBounds_toArray, List.set_cons_zero, List.set_cons_succ]
                refine wpAnyH_take (i := 10) (v := (.int .i64 (rlC R ud ut vd vt))) rfl (by kernel_rfl) (by kernel_rfl) (by kernel_rfl) (fun _ _ _ h => h) (Or.inl ⟨by rfl, fun w _ => by simp [go_sem, execOp]⟩) hHeld ?_
                try simp only [Act.put, List.setIfInBounds_toArray, List.set_cons_zero, List.set_cons_succ]
                exact key.out _ _ _ _ (And.intro hHeld (And.intro hbel (And.intro HA11 (And.intro hlo11 (And.intro HA12 (And.intro hlo12 (hne)))))))
          · skip
            go_simp
            refine hK.out _ _ (⟨Blk.alloc _ hHeld.1, Blk.alloc _ hHeld.2.1, Blk.alloc _ hHeld.2.2⟩) (fun hHeld => ?_)
            clear hK K
            try simp only [Act.put, List.setIfInBounds_toArray, List.set_cons_zero, List.set_cons_succ]
            have HA11 := Blk.new w187 34 #[.int .i64 0, .int .i64 0]
            have hlt := HA12.lt
            have hne : w187.heap.size ≠ a12 := by omega
            replace HA12 : Blk (w187.alloc (.cells #[.int .i64 0, .int .i64 0] 34)) a12 34 #[.int .i64 0, .int .i64 0] := Blk.alloc _ HA12
            clear hlt
            have hlo11 : w1.heap.size ≤ w187.heap.size := hsz
            replace hbel : Below w.heap.size w (w187.alloc (.cells #[.int .i64 0, .int .i64 0] 34)) := Bel.alloc hbel _
            replace hsz : w1.heap.size ≤ (w187.alloc (.cells #[.int .i64 0, .int .i64 0] 34)).heap.size := by simp only [World.size_alloc]; omega
            replace HJ := Ints.alloc (.cells #[.int .i64 0, .int .i64 0] 34) HJ
            generalize (w187.alloc (.cells #[.int .i64 0, .int .i64 0] 34)) = w193 at hHeld hbel hsz HA11 hlo11 HA12 hne HJ ⊢
            generalize w187.heap.size = a11 at HA11 hlo11 hne ⊢
            refine wpAnyH_ready (rs := [5]) (by kernel_rfl) (by simp) ?_
            refine AllReadyH.cons rfl (fun K hK => ?_) AllReadyH.nil
            · skip
              go_simp
              go_at_call 30; refine (toFigure_c vd vt _).mono ?_; rintro e w194 ⟨rfl, hb194⟩
              go_wp2_with fail
              refine hK.out _ _ (⟨Blk.step hb194 hHeld.1, Blk.step hb194 hHeld.2.1, Blk.step hb194 hHeld.2.2⟩) (fun hHeld => ?_)
              clear hK K
              try simp only [Act.put, List.setIfInBounds_toArray, List.set_cons_zero, List.set_cons_succ]
              replace hbel := Bel.step hb194 hbel
              replace hsz : w1.heap.size ≤ w194.heap.size := Nat.le_trans hsz hb194.size
              replace HA11 := Blk.step hb194 HA11
              replace HA12 := Blk.step hb194 HA12
              replace HJ := Ints.step hb194 HJ
              clear hb194
              refine wpAnyH_ready (rs := [6]) (by kernel_rfl) (by simp) ?_
              refine AllReadyH.cons rfl (fun K hK => ?_) AllReadyH.nil
              · skip
                go_simp
                go_at_call 39; refine (ReadRelease_S _ _ _ _ _ _ _ hn hm _ HJ).mono ?_; rintro e w195 ⟨rfl, hb195⟩
                go_wp2_with fail
                refine hK.out _ _ (⟨Blk.step hb195 hHeld.1, Blk.step hb195 hHeld.2.1, Blk.step hb195 hHeld.2.2⟩) (fun hHeld => ?_)
                clear hK K
                try simp only [Act.put, List.setIfInBounds_toArray, List.set_cons_zero, List.set_cons_succ]
                replace hbel := Bel.step hb195 hbel
                replace hsz : w1.heap.size ≤ w195.heap.size := Nat.le_trans hsz hb195.size
                replace HA11 := Blk.step hb195 HA11
                replace HA12 := Blk.step hb195 HA12
                replace HJ := Ints.step hb195 HJ
                clear HJ
                clear hb195
                refine wpAnyH_take (i := 7) (v := (.tuple #[.agg #[.int .i64 (rl0 R ud ut vd vt), .int .i64 (rl1 R ud ut vd vt)], .agg #[.int .i64 (rl2 R ud ut vd vt), .int .i64 (rl3 R ud ut vd vt)], .int .i64 (rlC R ud ut vd vt)])) rfl (by kernel_rfl) (by kernel_rfl) (by kernel_rfl) (fun _ _ _ h => h) (Or.inl ⟨by rfl, fun w _ => by simp [go_sem, execOp]⟩) hHeld ?_
                try simp only [Act.put, List.setIfInBounds_toArray, List.set_cons_zero, List.set_cons_succ]
                refine wpAnyH_take (i := 8) (v := (.agg #[.int .i64 (rl0 R ud ut vd vt), .int .i64 (rl1 R ud ut vd vt)])) rfl (by kernel_rfl) (by kernel_rfl) (by kernel_rfl) (fun _ _ _ h => h) (Or.inl ⟨by rfl, fun w _ => by simp [go_sem, execOp]⟩) hHeld ?_
                try simp only [Act.put, List.setIfInBounds_toArray, List.set_cons_zero, List.set_cons_succ]
                refine wpAnyH_take (i := 9) (v := (.agg #[.int .i64 (rl2 R ud ut vd vt), .int .i64 (rl3 R ud ut vd vt)])) rfl (by kernel_rfl) (by kernel_rfl) (by kernel_rfl) (fun _ _ _ h => h) (Or.inl ⟨by rfl, fun w _ => by simp [go_sem, execOp]⟩) hHeld ?_
                try simp only [Act.put, List.setIfInBounds_toArray, List.set_cons_zero, List.set_cons_succ]
                refine wpAnyH_take (i := 10) (v := (.int .i64 (rlC R ud ut vd vt))) rfl (by kernel_rfl) (by kernel_rfl) (by kernel_rfl) (fun _ _ _ h => h) (Or.inl ⟨by rfl, fun w _ => by simp [go_sem, execOp]⟩) hHeld ?_
                try simp only [Act.put, List.setIfInBounds_toArray, List.set_cons_zero, List.set_cons_succ]
                exact key.out _ _ _ _ (And.intro hHeld (And.intro hbel (And.intro HA11 (And.intro hlo11 (And.intro HA12 (And.intro hlo12 (hne)))))))
        · skip
          go_simp
          refine hK.out _ _ (⟨Blk.alloc _ hHeld.1, Blk.alloc _ hHeld.2.1, Blk.alloc _ hHeld.2.2⟩) (fun hHeld => ?_)
          clear hK K
          try simp only [Act.put, List.setIfInBounds_toArray, List.set_cons_zero, List.set_cons_succ]
          have HA11 := Blk.new w186 34 #[.int .i64 0, .int .i64 0]
          have hlt := HA12.lt
          have hne : w186.heap.size ≠ a12 := by omega
          replace HA12 : Blk (w186.alloc (.cells #[.int .i64 0, .int .i64 0] 34)) a12 34 #[.int .i64 0, .int .i64 0] := Blk.alloc _ HA12
          clear hlt
          have hlo11 : w1.heap.size ≤ w186.heap.size := hsz
          replace hbel : Below w.heap.size w (w186.alloc (.cells #[.int .i64 0, .int .i64 0] 34)) := Bel.alloc hbel _
          replace hsz : w1.heap.size ≤ (w186.alloc (.cells #[.int .i64 0, .int .i64 0] 34)).heap.size := by simp only [World.size_alloc]; omega
          replace HJ := Ints.alloc (.cells #[.int .i64 0, .int .i64 0] 34) HJ
          generalize (w186.alloc (.cells #[.int .i64 0, .int .i64 0] 34)) = w196 at hHeld hbel hsz HA11 hlo11 HA12 hne HJ ⊢
          generalize w186.heap.size = a11 at HA11 hlo11 hne ⊢
          refine wpAnyH_ready (rs := [3]) (by kernel_rfl) (by simp) ?_
          refine AllReadyH.cons rfl (fun K hK => ?_) AllReadyH.nil
          · skip
            go_simp
            go_at_call 30; refine (toFigure_c ud ut _).mono ?_; rintro e w197 ⟨rfl, hb197⟩
            go_wp2_with fail
            refine hK.out _ _ (⟨Blk.step hb197 hHeld.1, Blk.step hb197 hHeld.2.1, Blk.step hb197 hHeld.2.2⟩) (fun hHeld => ?_)
            clear hK K
            try simp only [Act.put, List.setIfInBounds_toArray, List.set_cons_zero, List.set_cons_succ]
            replace hbel := Bel.step hb197 hbel
            replace hsz : w1.heap.size ≤ w197.heap.size := Nat.le_trans hsz hb197.size
            replace HA11 := Blk.step hb197 HA11
            replace HA12 := Blk.step hb197 HA12
            replace HJ := Ints.step hb197 HJ
            clear hb197
            refine wpAnyH_ready (rs := [5]) (by kernel_rfl) (by simp) ?_
            refine AllReadyH.cons rfl (fun K hK => ?_) AllReadyH.nil
            · skip
              go_simp
              go_at_call 30; refine (toFigure_c vd vt _).mono ?_; rintro e w198 ⟨rfl, hb198⟩
              go_wp2_with fail
              refine hK.out _ _ (⟨Blk.step hb198 hHeld.1, Blk.step hb198 hHeld.2.1, Blk.step hb198 hHeld.2.2⟩) (fun hHeld => ?_)
              clear hK K
              try simp only [Act.put, List.setIfInBounds_toArray, List.set_cons_zero, List.set_cons_succ]
              replace hbel := Bel.step hb198 hbel
              replace hsz : w1.heap.size ≤ w198.heap.size := Nat.le_trans hsz hb198.size
              replace HA11 := Blk.step hb198 HA11
              replace HA12 := Blk.step hb198 HA12
              replace HJ := Ints.step hb198 HJ
              clear hb198
              refine wpAnyH_ready (rs := [6]) (by kernel_rfl) (by simp) ?_
              refine AllReadyH.cons rfl (fun K hK => ?_) AllReadyH.nil
              · skip
                go_simp
                go_at_call 39; refine (ReadRelease_S _ _ _ _ _ _ _ hn hm _ HJ).mono ?_; rintro e w199 ⟨rfl, hb199⟩
                go_wp2_with fail
                refine hK.out _ _ (⟨Blk.step hb199 hHeld.1, Blk.step hb199 hHeld.2.1, Blk.step hb199 hHeld.2.2⟩) (fun hHeld => ?_)
                clear hK K
                try simp only [Act.put, List.setIfInBounds_toArray, List.set_cons_zero, List.set_cons_succ]
                replace hbel := Bel.step hb199 hbel
                replace hsz : w1.heap.size ≤ w199.heap.size := Nat.le_trans hsz hb199.size
                replace HA11 := Blk.step hb199 HA11
                replace HA12 := Blk.step hb199 HA12
                replace HJ := Ints.step hb199 HJ
                clear HJ
                clear hb199
                refine wpAnyH_take (i := 7) (v := (.tuple #[.agg #[.int .i64 (rl0 R ud ut vd vt), .int .i64 (rl1 R ud ut vd vt)], .agg #[.int .i64 (rl2 R ud ut vd vt), .int .i64 (rl3 R ud ut vd vt)], .int .i64 (rlC R ud ut vd vt)])) rfl (by kernel_rfl) (by kernel_rfl) (by kernel_rfl) (fun _ _ _ h => h) (Or.inl ⟨by rfl, fun w _ => by simp [go_sem, execOp]⟩) hHeld ?_
                try simp only [Act.put, List.setIfInBounds_toArray, List.set_cons_zero, List.set_cons_succ]
                refine wpAnyH_take (i := 8) (v := (.agg #[.int .i64 (rl0 R ud ut vd vt), .int .i64 (rl1 R ud ut vd vt)])) rfl (by kernel_rfl) (by kernel_rfl) (by kernel_rfl) (fun _ _ _ h => h) (Or.inl ⟨by rfl, fun w _ => by simp [go_sem, execOp]⟩) hHeld ?_
                try simp only [Act.put, List.setIfInBounds_toArray, List.set_cons_zero, List.set_cons_succ]
                refine wpAnyH_take (i := 9) (v := (.agg #[.int .i64 (rl2 R ud ut vd vt), .int .i64 (rl3 R ud ut vd vt)])) rfl (by kernel_rfl) (by kernel_rfl) (by kernel_rfl) (fun _ _ _ h => h) (Or.inl ⟨by rfl, fun w _ => by simp [go_sem, execOp]⟩) hHeld ?_
                try simp only [Act.put, List.setIfInBounds_toArray, List.set_cons_zero, List.set_cons_succ]
                refine wpAnyH_take (i := 10) (v := (.int .i64 (rlC R ud ut vd vt))) rfl (by kernel_rfl) (by kernel_rfl) (by kernel_rfl) (fun _ _ _ h => h) (Or.inl ⟨by rfl, fun w _ => by simp [go_sem, execOp]⟩) hHeld ?_
                try simp only [Act.put, List.setIfInBounds_toArray, List.set_cons_zero, List.set_cons_succ]
                exact key.out _ _ _ _ (And.intro hHeld (And.intro hbel (And.intro HA11 (And.intro hlo11 (And.intro HA12 (And.intro hlo12 (hne)))))))
      · skip
        go_simp
        refine hK.out _ _ (⟨Blk.alloc _ hHeld.1, Blk.alloc _ hHeld.2.1, Blk.alloc _ hHeld.2.2⟩) (fun hHeld => ?_)
        clear hK K
        try simp only [Act.put, List.setIfInBounds_toArray, List.set_cons_zero, List.set_cons_succ]
        have HA11 := Blk.new w185 34 #[.int .i64 0, .int .i64 0]
        have hlt := HA12.lt
        have hne : w185.heap.size ≠ a12 := by omega
        replace HA12 : Blk (w185.alloc (.cells #[.int .i64 0, .int .i64 0] 34)) a12 34 #[.int .i64 0, .int .i64 0] := Blk.alloc _ HA12
        clear hlt
        have hlo11 : w1.heap.size ≤ w185.heap.size := hsz
        replace hbel : Below w.heap.size w (w185.alloc (.cells #[.int .i64 0, .int .i64 0] 34)) := Bel.alloc hbel _
        replace hsz : w1.heap.size ≤ (w185.alloc (.cells #[.int .i64 0, .int .i64 0] 34)).heap.size := by simp only [World.size_alloc]; omega
        generalize (w185.alloc (.cells #[.int .i64 0, .int .i64 0] 34)) = w200 at hHeld hbel hsz HA11 hlo11 HA12 hne ⊢
        generalize w185.heap.size = a11 at HA11 hlo11 hne ⊢
        refine wpAnyH_ready (rs := [1]) (by kernel_rfl) (by simp) ?_
        refine AllReadyH.cons rfl (fun K hK => ?_) AllReadyH.nil
        · skip
          go_simp
          go_at_call 29; refine (toRelease_c _ _ _ hn _ (Ints.step hbel hA)).mono ?_; rintro e w201 ⟨g201, rfl, hg201, hB201, hb201⟩
          go_wp2_with fail
          refine hK.out _ _ (⟨Blk.step hb201 hHeld.1, Blk.step hb201 hHeld.2.1, Blk.step hb201 hHeld.2.2⟩) (fun hHeld => ?_)
          clear hK K
          try simp only [Act.put, List.setIfInBounds_toArray, List.set_cons_zero, List.set_cons_succ]
          replace hbel := Bel.step hb201 hbel
          replace hsz : w1.heap.size ≤ w201.heap.size := Nat.le_trans hsz hb201.size
          replace HA11 := Blk.step hb201 HA11
          replace HA12 := Blk.step hb201 HA12
          have HJ := hB201.ints
          generalize g201 = G at HJ hg201 ⊢
          clear hB201 hg201
          clear hb201
          refine wpAnyH_ready (rs := [3]) (by kernel_rfl) (by simp) ?_
          refine AllReadyH.cons rfl (fun K hK => ?_) AllReadyH.nil
          · skip
            go_simp
            go_at_call 30; refine (toFigure_c ud ut _).mono ?_; rintro e w202 ⟨rfl, hb202⟩
            go_wp2_with fail
            refine hK.out _ _ (⟨Blk.step hb202 hHeld.1, Blk.step hb202 hHeld.2.1, Blk.step hb202 hHeld.2.2⟩) (fun hHeld => ?_)
            clear hK K
            try simp only [Act.put, List.setIfInBounds_toArray, List.set_cons_zero, List.set_cons_succ]
            replace hbel := Bel.step hb202 hbel
            replace hsz : w1.heap.size ≤ w202.heap.size := Nat.le_trans hsz hb202.size
            replace HA11 := Blk.step hb202 HA11
            replace HA12 := Blk.step hb202 HA12
            replace HJ := Ints.step hb202 HJ
            clear hb202
            refine wpAnyH_ready (rs := [5]) (by kernel_rfl) (by simp) ?_
            refine AllReadyH.cons rfl (fun K hK => ?_) AllReadyH.nil
            · skip
              go_simp
              go_at_call 30; refine (toFigure_c vd vt _).mono ?_; rintro e w203 ⟨rfl, hb203⟩
              go_wp2_with fail
              refine hK.out _ _ (⟨Blk.step hb203 hHeld.1, Blk.step hb203 hHeld.2.1, Blk.step hb203 hHeld.2.2⟩) (fun hHeld => ?_)
              clear hK K
              try simp only [Act.put, List.setIfInBounds_toArray, List.set_cons_zero, List.set_cons_succ]
              replace hbel := Bel.step hb203 hbel
              replace hsz : w1.heap.size ≤ w203.heap.size := Nat.le_trans hsz hb203.size
              replace HA11 := Blk.step hb203 HA11
              replace HA12 := Blk.step hb203 HA12
              replace HJ := Ints.step hb203 HJ
              clear hb203
              refine wpAnyH_ready (rs := [6]) (by kernel_rfl) (by simp) ?_
              refine AllReadyH.cons rfl (fun K hK => ?_) AllReadyH.nil
              · skip
                go_simp
                go_at_call 39; refine (ReadRelease_S _ _ _ _ _ _ _ hn hm _ HJ).mono ?_; rintro e w204 ⟨rfl, hb204⟩
                go_wp2_with fail
                refine hK.out _ _ (⟨Blk.step hb204 hHeld.1, Blk.step hb204 hHeld.2.1, Blk.step hb204 hHeld.2.2⟩) (fun hHeld => ?_)
                clear hK K
                try simp only [Act.put, List.setIfInBounds_toArray, List.set_cons_zero, List.set_cons_succ]
                replace hbel := Bel.step hb204 hbel
                replace hsz : w1.heap.size ≤ w204.heap.size := Nat.le_trans hsz hb204.size
                replace HA11 := Blk.step hb204 HA11
                replace HA12 := Blk.step hb204 HA12
                replace HJ := Ints.step hb204 HJ
                clear HJ
                clear hb204
                refine wpAnyH_take (i := 7) (v := (.tuple #[.agg #[.int .i64 (rl0 R ud ut vd vt), .int .i64 (rl1 R ud ut vd vt)], .agg #[.int .i64 (rl2 R ud ut vd vt), .int .i64 (rl3 R ud ut vd vt)], .int .i64 (rlC R ud ut vd vt)])) rfl (by kernel_rfl) (by kernel_rfl) (by kernel_rfl) (fun _ _ _ h => h) (Or.inl ⟨by rfl, fun w _ => by simp [go_sem, execOp]⟩) hHeld ?_
                try simp only [Act.put, List.setIfInBounds_toArray, List.set_cons_zero, List.set_cons_succ]
                refine wpAnyH_take (i := 8) (v := (.agg #[.int .i64 (rl0 R ud ut vd vt), .int .i64 (rl1 R ud ut vd vt)])) rfl (by kernel_rfl) (by kernel_rfl) (by kernel_rfl) (fun _ _ _ h => h) (Or.inl ⟨by rfl, fun w _ => by simp [go_sem, execOp]⟩) hHeld ?_
                try simp only [Act.put, List.setIfInBounds_toArray, List.set_cons_zero, List.set_cons_succ]
                refine wpAnyH_take (i := 9) (v := (.agg #[.int .i64 (rl2 R ud ut vd vt), .int .i64 (rl3 R ud ut vd vt)])) rfl (by kernel_rfl) (by kernel_rfl) (by kernel_rfl) (fun _ _ _ h => h) (Or.inl ⟨by rfl, fun w _ => by simp [go_sem, execOp]⟩) hHeld ?_
                try simp only [Act.put, List.setIfInBounds_toArray, List.set_cons_zero, List.set_cons_succ]
                refine wpAnyH_take (i := 10) (v := (.int .i64 (rlC R ud ut vd vt))) rfl (by kernel_rfl) (by kernel_rfl) (by kernel_rfl) (fun _ _ _ h => h) (Or.inl ⟨by rfl, fun w _ => by simp [go_sem, execOp]⟩) hHeld ?_
                try simp only [Act.put, List.setIfInBounds_toArray, List.set_cons_zero, List.set_cons_succ]
                exact key.out _ _ _ _ (And.intro hHeld (And.intro hbel (And.intro HA11 (And.intro hlo11 (And.intro HA12 (And.intro hlo12 (hne)))))))
  intro G x W y ⟨hHeld, hbel, HX, hx, HY, hy, hne⟩
  have l3 := Hv.lt
  have x0 : W.cell? ⟨x, 0, none⟩ = some (.int .i64 0) := by rw [HX.cell]; rfl
  have x1 : W.cell? ⟨x, 1, none⟩ = some (.int .i64 0) := by rw [HX.cell]; rfl
  have y0 : W.cell? ⟨y, 0, none⟩ = some (.int .i64 0) := by rw [HY.cell]; rfl
  have y1 : W.cell? ⟨y, 1, none⟩ = some (.int .i64 0) := by rw [HY.cell]; rfl
  have xf0 := HX.frozen 0
  have xf1 := HX.frozen 1
  have yf0 := HY.frozen 0
  have yf1 := HY.frozen 1
  have nyx : y ≠ x := fun h => hne h.symm
  refine wpAnyH_ready (rs := [13]) (by kernel_rfl) (by simp) ?_
  refine AllReadyH.cons rfl (fun K hK => ?_) AllReadyH.nil
  go_simp
  refine hK.out _ _ (⟨Blk.far _ (by first | (simp; done) | (simp; omega)) (Blk.far _ (by first | (simp; done) | (simp; omega)) hHeld.1), Blk.far _ (by first | (simp; done) | (simp; omega)) (Blk.far _ (by first | (simp; done) | (simp; omega)) hHeld.2.1), Blk.far _ (by first | (simp; done) | (simp; omega)) (Blk.far _ (by first | (simp; done) | (simp; omega)) hHeld.2.2)⟩) (fun hHeld => ?_)
  clear hK K
  try simp only [Act.put, List.setIfInBounds_toArray, List.set_cons_zero, List.set_cons_succ]
  refine wpAnyH_ready (rs := [14]) (by kernel_rfl) (by simp) ?_
  refine AllReadyH.cons rfl (fun K hK => ?_) AllReadyH.nil
  go_simp
  refine hK.out _ _ (⟨Blk.far _ (by first | (simp; done) | (simp; omega)) (Blk.far _ (by first | (simp; done) | (simp; omega)) hHeld.1), Blk.far _ (by first | (simp; done) | (simp; omega)) (Blk.far _ (by first | (simp; done) | (simp; omega)) hHeld.2.1), Blk.far _ (by first | (simp; done) | (simp; omega)) (Blk.far _ (by first | (simp; done) | (simp; omega)) hHeld.2.2)⟩) (fun hHeld => ?_)
  clear hK K
  try simp only [Act.put, List.setIfInBounds_toArray, List.set_cons_zero, List.set_cons_succ]
  have HX5 : Blk ((((W.setCell ⟨x, 0, none⟩ (.int .i64 (rl0 R ud ut vd vt))).setCell ⟨x, 1, none⟩ (.int .i64 (rl1 R ud ut vd vt))).setCell ⟨y, 0, none⟩ (.int .i64 (rl2 R ud ut vd vt))).setCell ⟨y, 1, none⟩ (.int .i64 (rl3 R ud ut vd vt))) x 34 #[.int .i64 (rl0 R ud ut vd vt), .int .i64 (rl1 R ud ut vd vt)] := Blk.far _ (by first | (simp; done) | (simp; omega)) (Blk.far _ (by first | (simp; done) | (simp; omega)) (by simpa using (HX.set_ 0 (.int .i64 (rl0 R ud ut vd vt))).set_ 1 (.int .i64 (rl1 R ud ut vd vt))))
  have HY5 : Blk ((((W.setCell ⟨x, 0, none⟩ (.int .i64 (rl0 R ud ut vd vt))).setCell ⟨x, 1, none⟩ (.int .i64 (rl1 R ud ut vd vt))).setCell ⟨y, 0, none⟩ (.int .i64 (rl2 R ud ut vd vt))).setCell ⟨y, 1, none⟩ (.int .i64 (rl3 R ud ut vd vt))) y 34 #[.int .i64 (rl2 R ud ut vd vt), .int .i64 (rl3 R ud ut vd vt)] := by simpa using ((Blk.far (p := ⟨x, 1, none⟩) (.int .i64 (rl1 R ud ut vd vt)) (by simpa using nyx) (Blk.far (p := ⟨x, 0, none⟩) (.int .i64 (rl0 R ud ut vd vt)) (by simpa using nyx) HY)).set_ 0 (.int .i64 (rl2 R ud ut vd vt))).set_ 1 (.int .i64 (rl3 R ud ut vd vt))
  have hbel5 : Below w.heap.size w ((((W.setCell ⟨x, 0, none⟩ (.int .i64 (rl0 R ud ut vd vt))).setCell ⟨x, 1, none⟩ (.int .i64 (rl1 R ud ut vd vt))).setCell ⟨y, 0, none⟩ (.int .i64 (rl2 R ud ut vd vt))).setCell ⟨y, 1, none⟩ (.int .i64 (rl3 R ud ut vd vt))) := (((hbel.setCell (by simp; omega) _).setCell (by simp; omega) _).setCell (by simp; omega) _).setCell (by simp; omega) _
  generalize (((W.setCell ⟨x, 0, none⟩ (.int .i64 (rl0 R ud ut vd vt))).setCell ⟨x, 1, none⟩ (.int .i64 (rl1 R ud ut vd vt))).setCell ⟨y, 0, none⟩ (.int .i64 (rl2 R ud ut vd vt))).setCell ⟨y, 1, none⟩ (.int .i64 (rl3 R ud ut vd vt)) = w5 at hHeld HX5 HY5 hbel5 ⊢
  clear HX HY x0 x1 y0 y1 xf0 xf1 yf0 yf1 hbel HB Hu Hv
  refine wpAnyH_take (i := 15) (v := (.int .i64 (rlC R ud ut vd vt))) rfl (by kernel_rfl) (by kernel_rfl) (by kernel_rfl) (fun _ _ _ h => h) (Or.inl ⟨by rfl, fun w _ => by simp [go_sem, execOp]⟩) hHeld ?_
  simp only [Act.put, List.getElem_toArray, List.getElem_cons_succ, List.getElem_cons_zero, List.setIfInBounds_toArray, List.set_cons_zero, List.set_cons_succ]
  refine wpAnyH_done (by kernel_rfl) ?_ _
  obtain ⟨HB5, Hu5, Hv5⟩ := hHeld
  have HI5 := Lib.hid (Ints.step hbel5 hA)
  go_upto_region 6 with (fail)
  apply wp_region_lit
  refine wpList_load_blk 52 _ _ HB5 Try.underlying52 (by kernel_rfl) rfl rfl rfl ?_
  go_wp2_with fail
  go_at_call 29; refine (toRelease_c _ _ _ hn _ (by repeat (with_reducible first | exact HI5.out | assumption | refine Ints.drew ?_ | refine Ints.drewN _ ?_ | refine Ints.alloc _ ?_ | refine Ints.step (by assumption) ?_))).mono ?_; rintro e w3 ⟨g3, rfl, hg3, hB3, hb3⟩; obtain ⟨hc3, hf3, hz3⟩ := bel hb3; (try simp only [World.size_drew, World.cell?_drew, World.frozen?_drew] at hc3 hf3 hz3); (try simp only [World.heap_drewN, World.cell?_drewN, World.frozen?_drewN] at hc3 hf3 hz3); (try have hl3 : w.heap.size < w3.heap.size := by (have hq := hb3.size; (try simp at hq); omega)); (try have hm3 : w.heap.size + 1 < w3.heap.size := by (have hq := hb3.size; (try simp at hq); omega)); (try have hn3 : w.heap.size + 1 + 1 < w3.heap.size := by (have hq := hb3.size; (try simp at hq); omega)); (try have hp3 : b < w3.heap.size := by (have hq := hb3.size; (try simp at hq); omega)); (try have ho3 : b' < w3.heap.size := by (have hq := hb3.size; (try simp at hq); omega))
  go_upto_region 7 with (refine wpList_store_blk (cs := #[.int .i64 R.ch.dg, .int .i64 R.ch.tn, .string R.ch.nm, .slice (some ⟨g3, 0, none⟩) R.ch.zs.length R.ch.zs.length, .int .i64 R.ch.wd, .int .i64 R.ch.lf, .int .i64 R.ch.rt, .int .i64 R.ad, .int .i64 R.at_, .int .i64 R.bd, .int .i64 R.bt, .int .i64 R.cd, .int .i64 R.ct, .int .i64 R.dd, .int .i64 R.dt, .int .i64 R.ey, .int .i64 R.bo]) 55 _ _ _ (Blk.new _ _ _) (by kernel_rfl) rfl (by simp [Value.oneCell']) rfl rfl rfl rfl ?_)
  rw [World.setRow_alloc_new]
  have hbV : Below w.heap.size w (w3.alloc (.cells #[.int .i64 R.ch.dg, .int .i64 R.ch.tn, .string R.ch.nm, .slice (some ⟨g3, 0, none⟩) R.ch.zs.length R.ch.zs.length, .int .i64 R.ch.wd, .int .i64 R.ch.lf, .int .i64 R.ch.rt, .int .i64 R.ad, .int .i64 R.at_, .int .i64 R.bd, .int .i64 R.bt, .int .i64 R.cd, .int .i64 R.ct, .int .i64 R.dd, .int .i64 R.dt, .int .i64 R.ey, .int .i64 R.bo] 55)) := by repeat (with_reducible first | exact Below.refl _ _ | assumption | refine Bel.alloc ?_ _ | refine Bel.step (by assumption) ?_ | refine Below.drew ?_ | refine Bel.drewN ?_ _ | refine Below.setCell ?_ (by first | exact Nat.le_refl _ | omega | (simp; done) | (simp; omega)) _)
  have HYV : Blk (w3.alloc (.cells #[.int .i64 R.ch.dg, .int .i64 R.ch.tn, .string R.ch.nm, .slice (some ⟨g3, 0, none⟩) R.ch.zs.length R.ch.zs.length, .int .i64 R.ch.wd, .int .i64 R.ch.lf, .int .i64 R.ch.rt, .int .i64 R.ad, .int .i64 R.at_, .int .i64 R.bd, .int .i64 R.bt, .int .i64 R.cd, .int .i64 R.ct, .int .i64 R.dd, .int .i64 R.dt, .int .i64 R.ey, .int .i64 R.bo] 55)) w3.heap.size 55 #[.int .i64 R.ch.dg, .int .i64 R.ch.tn, .string R.ch.nm, .slice (some ⟨g3, 0, none⟩) R.ch.zs.length R.ch.zs.length, .int .i64 R.ch.wd, .int .i64 R.ch.lf, .int .i64 R.ch.rt, .int .i64 R.ad, .int .i64 R.at_, .int .i64 R.bd, .int .i64 R.bt, .int .i64 R.cd, .int .i64 R.ct, .int .i64 R.dd, .int .i64 R.dt, .int .i64 R.ey, .int .i64 R.bo] := Blk.new _ _ _
  have HBV : Blk (w3.alloc (.cells #[.int .i64 R.ch.dg, .int .i64 R.ch.tn, .string R.ch.nm, .slice (some ⟨g3, 0, none⟩) R.ch.zs.length R.ch.zs.length, .int .i64 R.ch.wd, .int .i64 R.ch.lf, .int .i64 R.ch.rt, .int .i64 R.ad, .int .i64 R.at_, .int .i64 R.bd, .int .i64 R.bt, .int .i64 R.cd, .int .i64 R.ct, .int .i64 R.dd, .int .i64 R.dt, .int .i64 R.ey, .int .i64 R.bo] 55)) (w.heap.size) 52 #[.int .i64 R.ch.dg, .int .i64 R.ch.tn, .string R.ch.nm, .slice A R.ch.zs.length c, .int .i64 R.ch.wd, .int .i64 R.ch.lf, .int .i64 R.ch.rt, .int .i64 R.ad, .int .i64 R.at_, .int .i64 R.bd, .int .i64 R.bt, .int .i64 R.cd, .int .i64 R.ct, .int .i64 R.dd, .int .i64 R.dt, .int .i64 R.ey, .int .i64 R.bo] := Blk.alloc _ (Blk.step hb3 HB5)
  have HuV : Blk (w3.alloc (.cells #[.int .i64 R.ch.dg, .int .i64 R.ch.tn, .string R.ch.nm, .slice (some ⟨g3, 0, none⟩) R.ch.zs.length R.ch.zs.length, .int .i64 R.ch.wd, .int .i64 R.ch.lf, .int .i64 R.ch.rt, .int .i64 R.ad, .int .i64 R.at_, .int .i64 R.bd, .int .i64 R.bt, .int .i64 R.cd, .int .i64 R.ct, .int .i64 R.dd, .int .i64 R.dt, .int .i64 R.ey, .int .i64 R.bo] 55)) (w.heap.size + 1) 23 #[.int .i64 ud, .int .i64 ut] := Blk.alloc _ (Blk.step hb3 Hu5)
  have HvV : Blk (w3.alloc (.cells #[.int .i64 R.ch.dg, .int .i64 R.ch.tn, .string R.ch.nm, .slice (some ⟨g3, 0, none⟩) R.ch.zs.length R.ch.zs.length, .int .i64 R.ch.wd, .int .i64 R.ch.lf, .int .i64 R.ch.rt, .int .i64 R.ad, .int .i64 R.at_, .int .i64 R.bd, .int .i64 R.bt, .int .i64 R.cd, .int .i64 R.ct, .int .i64 R.dd, .int .i64 R.dt, .int .i64 R.ey, .int .i64 R.bo] 55)) (w.heap.size + 1 + 1) 23 #[.int .i64 vd, .int .i64 vt] := Blk.alloc _ (Blk.step hb3 Hv5)
  have HXV : Blk (w3.alloc (.cells #[.int .i64 R.ch.dg, .int .i64 R.ch.tn, .string R.ch.nm, .slice (some ⟨g3, 0, none⟩) R.ch.zs.length R.ch.zs.length, .int .i64 R.ch.wd, .int .i64 R.ch.lf, .int .i64 R.ch.rt, .int .i64 R.ad, .int .i64 R.at_, .int .i64 R.bd, .int .i64 R.bt, .int .i64 R.cd, .int .i64 R.ct, .int .i64 R.dd, .int .i64 R.dt, .int .i64 R.ey, .int .i64 R.bo] 55)) (x) 34 #[.int .i64 (rl0 R ud ut vd vt), .int .i64 (rl1 R ud ut vd vt)] := Blk.alloc _ (Blk.step hb3 HX5)
  have HYV2 : Blk (w3.alloc (.cells #[.int .i64 R.ch.dg, .int .i64 R.ch.tn, .string R.ch.nm, .slice (some ⟨g3, 0, none⟩) R.ch.zs.length R.ch.zs.length, .int .i64 R.ch.wd, .int .i64 R.ch.lf, .int .i64 R.ch.rt, .int .i64 R.ad, .int .i64 R.at_, .int .i64 R.bd, .int .i64 R.bt, .int .i64 R.cd, .int .i64 R.ct, .int .i64 R.dd, .int .i64 R.dt, .int .i64 R.ey, .int .i64 R.bo] 55)) (y) 34 #[.int .i64 (rl2 R ud ut vd vt), .int .i64 (rl3 R ud ut vd vt)] := Blk.alloc _ (Blk.step hb3 HY5)
  have HGV : Blk (w3.alloc (.cells #[.int .i64 R.ch.dg, .int .i64 R.ch.tn, .string R.ch.nm, .slice (some ⟨g3, 0, none⟩) R.ch.zs.length R.ch.zs.length, .int .i64 R.ch.wd, .int .i64 R.ch.lf, .int .i64 R.ch.rt, .int .i64 R.ad, .int .i64 R.at_, .int .i64 R.bd, .int .i64 R.bt, .int .i64 R.cd, .int .i64 R.ct, .int .i64 R.dd, .int .i64 R.dt, .int .i64 R.ey, .int .i64 R.bo] 55)) g3 2 (icells R.ch.zs) := Blk.alloc _ hB3
  clear hb3 hc3 hf3 hz3 hB3 HB5 Hu5 Hv5 HX5 HY5 HI5 hbel5 hg3
  generalize w3.alloc (.cells #[.int .i64 R.ch.dg, .int .i64 R.ch.tn, .string R.ch.nm, .slice (some ⟨g3, 0, none⟩) R.ch.zs.length R.ch.zs.length, .int .i64 R.ch.wd, .int .i64 R.ch.lf, .int .i64 R.ch.rt, .int .i64 R.ad, .int .i64 R.at_, .int .i64 R.bd, .int .i64 R.bt, .int .i64 R.cd, .int .i64 R.ct, .int .i64 R.dd, .int .i64 R.dt, .int .i64 R.ey, .int .i64 R.bo] 55) = V at hbV HYV HGV HBV HuV HvV HXV HYV2 ⊢
  generalize w3.heap.size = Y at HYV ⊢
  apply cut_Rr
  · intro key
    refine wp_region_held_drew (S := fun W => Blk W Y 55 #[.int .i64 R.ch.dg, .int .i64 R.ch.tn, .string R.ch.nm, .slice (some ⟨g3, 0, none⟩) R.ch.zs.length R.ch.zs.length, .int .i64 R.ch.wd, .int .i64 R.ch.lf, .int .i64 R.ch.rt, .int .i64 R.ad, .int .i64 R.at_, .int .i64 R.bd, .int .i64 R.bt, .int .i64 R.cd, .int .i64 R.ct, .int .i64 R.dd, .int .i64 R.dt, .int .i64 R.ey, .int .i64 R.bo] ∧ Blk W (w.heap.size + 1) 23 #[.int .i64 ud, .int .i64 ut] ∧ Blk W (w.heap.size + 1 + 1) 23 #[.int .i64 vd, .int .i64 vt] ∧ Blk W w.heap.size 52 #[.int .i64 R.ch.dg, .int .i64 R.ch.tn, .string R.ch.nm, .slice A R.ch.zs.length c, .int .i64 R.ch.wd, .int .i64 R.ch.lf, .int .i64 R.ch.rt, .int .i64 R.ad, .int .i64 R.at_, .int .i64 R.bd, .int .i64 R.bt, .int .i64 R.cd, .int .i64 R.ct, .int .i64 R.dd, .int .i64 R.dt, .int .i64 R.ey, .int .i64 R.bo] ∧ Blk W x 34 #[.int .i64 (rl0 R ud ut vd vt), .int .i64 (rl1 R ud ut vd vt)] ∧ Blk W y 34 #[.int .i64 (rl2 R ud ut vd vt), .int .i64 (rl3 R ud ut vd vt)] ∧ Blk W g3 2 (icells R.ch.zs)) (by kernel_rfl) (⟨Blk.drew HYV, Blk.drew HuV, Blk.drew HvV, Blk.drew HBV, Blk.drew HXV, Blk.drew HYV2, Blk.drew HGV⟩) (fun hHeld => ?_)
    have hbel : Below w.heap.size w V.drew := Below.drew hbV
    have hsz : V.heap.size ≤ V.drew.heap.size := Nat.le_refl _
    generalize V.drew = wA at hHeld hbel hsz ⊢
    refine wpAnyH_take (i := 0) (v := .agg #[.int .i64 R.ch.dg, .int .i64 R.ch.tn, .string R.ch.nm, .slice (some ⟨g3, 0, none⟩) R.ch.zs.length R.ch.zs.length, .int .i64 R.ch.wd, .int .i64 R.ch.lf, .int .i64 R.ch.rt, .int .i64 R.ad, .int .i64 R.at_, .int .i64 R.bd, .int .i64 R.bt, .int .i64 R.cd, .int .i64 R.ct, .int .i64 R.dd, .int .i64 R.dt, .int .i64 R.ey, .int .i64 R.bo]) rfl (by kernel_rfl) (by kernel_rfl) (by kernel_rfl) (fun _ _ _ h => h) (yieldsIf_load_blk 55 _ (Y) (fun _ h => h.1) Try.underlying55 (by kernel_rfl) (by rfl) rfl rfl) hHeld ?_
    try simp only [Act.put, List.setIfInBounds_toArray, List.set_cons_zero, List.set_cons_succ]
    refine wpAnyH_take (i := 1) (v := .agg #[.int .i64 ud, .int .i64 ut]) rfl (by kernel_rfl) (by kernel_rfl) (by kernel_rfl) (fun _ _ _ h => h) (yieldsIf_load_blk 23 _ (w.heap.size + 1) (fun _ h => h.2.1) Try.underlying23 (by kernel_rfl) (by rfl) rfl rfl) hHeld ?_
    try simp only [Act.put, List.setIfInBounds_toArray, List.set_cons_zero, List.set_cons_succ]
    refine wpAnyH_take (i := 3) (v := .agg #[.int .i64 vd, .int .i64 vt]) rfl (by kernel_rfl) (by kernel_rfl) (by kernel_rfl) (fun _ _ _ h => h) (yieldsIf_load_blk 23 _ (w.heap.size + 1 + 1) (fun _ h => h.2.2.1) Try.underlying23 (by kernel_rfl) (by rfl) rfl rfl) hHeld ?_
    try simp only [Act.put, List.setIfInBounds_toArray, List.set_cons_zero, List.set_cons_succ]
    refine wpAnyH_ready (rs := [2, 10, 11]) (by kernel_rfl) (by simp) ?_
    refine AllReadyH.cons rfl (fun K hK => ?_) (AllReadyH.cons rfl (fun K hK => ?_) (AllReadyH.cons rfl (fun K hK => ?_) AllReadyH.nil))
    · skip
      go_simp
      go_at_call 30; refine (toFigure_c ud ut _).mono ?_; rintro e w101 ⟨rfl, hb101⟩
      go_wp2_with fail
      refine hK.out _ _ (⟨Blk.step hb101 hHeld.1, Blk.step hb101 hHeld.2.1, Blk.step hb101 hHeld.2.2.1, Blk.step hb101 hHeld.2.2.2.1, Blk.step hb101 hHeld.2.2.2.2.1, Blk.step hb101 hHeld.2.2.2.2.2.1, Blk.step hb101 hHeld.2.2.2.2.2.2⟩) (fun hHeld => ?_)
      clear hK K
      try simp only [Act.put, List.setIfInBounds_toArray, List.set_cons_zero, List.set_cons_succ]
      replace hbel := Bel.step hb101 hbel
      replace hsz : V.heap.size ≤ w101.heap.size := Nat.le_trans hsz hb101.size
      clear hb101
      refine wpAnyH_ready (rs := [4, 10, 11]) (by kernel_rfl) (by simp) ?_
      refine AllReadyH.cons rfl (fun K hK => ?_) (AllReadyH.cons rfl (fun K hK => ?_) (AllReadyH.cons rfl (fun K hK => ?_) AllReadyH.nil))
      · skip
        go_simp
        go_at_call 30; refine (toFigure_c vd vt _).mono ?_; rintro e w102 ⟨rfl, hb102⟩
        go_wp2_with fail
        refine hK.out _ _ (⟨Blk.step hb102 hHeld.1, Blk.step hb102 hHeld.2.1, Blk.step hb102 hHeld.2.2.1, Blk.step hb102 hHeld.2.2.2.1, Blk.step hb102 hHeld.2.2.2.2.1, Blk.step hb102 hHeld.2.2.2.2.2.1, Blk.step hb102 hHeld.2.2.2.2.2.2⟩) (fun hHeld => ?_)
        clear hK K
        try simp only [Act.put, List.setIfInBounds_toArray, List.set_cons_zero, List.set_cons_succ]
        replace hbel := Bel.step hb102 hbel
        replace hsz : V.heap.size ≤ w102.heap.size := Nat.le_trans hsz hb102.size
        clear hb102
        refine wpAnyH_ready (rs := [5, 10, 11]) (by kernel_rfl) (by simp) ?_
        refine AllReadyH.cons rfl (fun K hK => ?_) (AllReadyH.cons rfl (fun K hK => ?_) (AllReadyH.cons rfl (fun K hK => ?_) AllReadyH.nil))
        · skip
          go_simp
          go_at_call 40; refine (ReadRelease_I _ _ _ _ _ _ _ hn hm _ hHeld.2.2.2.2.2.2.ints).mono ?_; rintro e w103 ⟨rfl, hb103⟩
          go_wp2_with fail
          refine hK.out _ _ (⟨Blk.step hb103 hHeld.1, Blk.step hb103 hHeld.2.1, Blk.step hb103 hHeld.2.2.1, Blk.step hb103 hHeld.2.2.2.1, Blk.step hb103 hHeld.2.2.2.2.1, Blk.step hb103 hHeld.2.2.2.2.2.1, Blk.step hb103 hHeld.2.2.2.2.2.2⟩) (fun hHeld => ?_)
          clear hK K
          try simp only [Act.put, List.setIfInBounds_toArray, List.set_cons_zero, List.set_cons_succ]
          replace hbel := Bel.step hb103 hbel
          replace hsz : V.heap.size ≤ w103.heap.size := Nat.le_trans hsz hb103.size
          clear hb103
          refine wpAnyH_take (i := 6) (v := (.tuple #[.agg #[.int .i64 (rl0 R ud ut vd vt), .int .i64 (rl1 R ud ut vd vt)], .agg #[.int .i64 (rl2 R ud ut vd vt), .int .i64 (rl3 R ud ut vd vt)], .int .i64 (rlC R ud ut vd vt)])) rfl (by kernel_rfl) (by kernel_rfl) (by kernel_rfl) (fun _ _ _ h => h) (Or.inl ⟨by rfl, fun w _ => by simp [go_sem, execOp]⟩) hHeld ?_
          try simp only [Act.put, List.setIfInBounds_toArray, List.set_cons_zero, List.set_cons_succ]
          refine wpAnyH_take (i := 7) (v := (.agg #[.int .i64 (rl0 R ud ut vd vt), .int .i64 (rl1 R ud ut vd vt)])) rfl (by kernel_rfl) (by kernel_rfl) (by kernel_rfl) (fun _ _ _ h => h) (Or.inl ⟨by rfl, fun w _ => by simp [go_sem, execOp]⟩) hHeld ?_
          try simp only [Act.put, List.setIfInBounds_toArray, List.set_cons_zero, List.set_cons_succ]
          refine wpAnyH_take (i := 8) (v := (.agg #[.int .i64 (rl2 R ud ut vd vt), .int .i64 (rl3 R ud ut vd vt)])) rfl (by kernel_rfl) (by kernel_rfl) (by kernel_rfl) (fun _ _ _ h => h) (Or.inl ⟨by rfl, fun w _ => by simp [go_sem, execOp]⟩) hHeld ?_
          try simp only [Act.put, List.setIfInBounds_toArray, List.set_cons_zero, List.set_cons_succ]
          refine wpAnyH_take (i := 9) (v := (.int .i64 (rlC R ud ut vd vt))) rfl (by kernel_rfl) (by kernel_rfl) (by kernel_rfl) (fun _ _ _ h => h) (Or.inl ⟨by rfl, fun w _ => by simp [go_sem, execOp]⟩) hHeld ?_
          try simp only [Act.put, List.setIfInBounds_toArray, List.set_cons_zero, List.set_cons_succ]
          refine wpAnyH_ready (rs := [10, 11]) (by kernel_rfl) (by simp) ?_
          refine AllReadyH.cons rfl (fun K hK => ?_) (AllReadyH.cons rfl (fun K hK => ?_) AllReadyH.nil)
          · skip
            go_simp
            refine hK.out _ _ (⟨Blk.alloc _ hHeld.1, Blk.alloc _ hHeld.2.1, Blk.alloc _ hHeld.2.2.1, Blk.alloc _ hHeld.2.2.2.1, Blk.alloc _ hHeld.2.2.2.2.1, Blk.alloc _ hHeld.2.2.2.2.2.1, Blk.alloc _ hHeld.2.2.2.2.2.2⟩) (fun hHeld => ?_)
            clear hK K
            try simp only [Act.put, List.setIfInBounds_toArray, List.set_cons_zero, List.set_cons_succ]
            have HA10 := Blk.new w103 34 #[.int .i64 0, .int .i64 0]
            have hlo10 : V.heap.size ≤ w103.heap.size := hsz
            replace hbel : Below w.heap.size w (w103.alloc (.cells #[.int .i64 0, .int .i64 0] 34)) := Bel.alloc hbel _
            replace hsz : V.heap.size ≤ (w103.alloc (.cells #[.int .i64 0, .int .i64 0] 34)).heap.size := by simp only [World.size_alloc]; omega
            generalize (w103.alloc (.cells #[.int .i64 0, .int .i64 0] 34)) = w104 at hHeld hbel hsz HA10 hlo10 ⊢
            generalize w103.heap.size = a10 at HA10 hlo10 ⊢
            refine wpAnyH_ready (rs := [11]) (by kernel_rfl) (by simp) ?_
            refine AllReadyH.cons rfl (fun K hK => ?_) AllReadyH.nil
            · skip
              go_simp
              refine hK.out _ _ (⟨Blk.alloc _ hHeld.1, Blk.alloc _ hHeld.2.1, Blk.alloc _ hHeld.2.2.1, Blk.alloc _ hHeld.2.2.2.1, Blk.alloc _ hHeld.2.2.2.2.1, Blk.alloc _ hHeld.2.2.2.2.2.1, Blk.alloc _ hHeld.2.2.2.2.2.2⟩) (fun hHeld => ?_)
              clear hK K
              try simp only [Act.put, List.setIfInBounds_toArray, List.set_cons_zero, List.set_cons_succ]
              have HA11 := Blk.new w104 34 #[.int .i64 0, .int .i64 0]
              have hlt := HA10.lt
              have hne : a10 ≠ w104.heap.size := by omega
              replace HA10 : Blk (w104.alloc (.cells #[.int .i64 0, .int .i64 0] 34)) a10 34 #[.int .i64 0, .int .i64 0] := Blk.alloc _ HA10
              clear hlt
              have hlo11 : V.heap.size ≤ w104.heap.size := hsz
              replace hbel : Below w.heap.size w (w104.alloc (.cells #[.int .i64 0, .int .i64 0] 34)) := Bel.alloc hbel _
              replace hsz : V.heap.size ≤ (w104.alloc (.cells #[.int .i64 0, .int .i64 0] 34)).heap.size := by simp only [World.size_alloc]; omega
              generalize (w104.alloc (.cells #[.int .i64 0, .int .i64 0] 34)) = w105 at hHeld hbel hsz HA11 hlo11 HA10 hne ⊢
              generalize w104.heap.size = a11 at HA11 hlo11 hne ⊢
              have hall := And.intro hHeld (And.intro hbel (And.intro HA10 (And.intro hlo10 (And.intro HA11 (And.intro hlo11 (hne))))))
              clear hsz hHeld hbel HA10 hlo10 HA11 hlo11 hne
              revert hall
              revert w105 a10 a11
              exact key.out
          · skip
            go_simp
            refine hK.out _ _ (⟨Blk.alloc _ hHeld.1, Blk.alloc _ hHeld.2.1, Blk.alloc _ hHeld.2.2.1, Blk.alloc _ hHeld.2.2.2.1, Blk.alloc _ hHeld.2.2.2.2.1, Blk.alloc _ hHeld.2.2.2.2.2.1, Blk.alloc _ hHeld.2.2.2.2.2.2⟩) (fun hHeld => ?_)
            clear hK K
            try simp only [Act.put, List.setIfInBounds_toArray, List.set_cons_zero, List.set_cons_succ]
            have HA11 := Blk.new w103 34 #[.int .i64 0, .int .i64 0]
            have hlo11 : V.heap.size ≤ w103.heap.size := hsz
            replace hbel : Below w.heap.size w (w103.alloc (.cells #[.int .i64 0, .int .i64 0] 34)) := Bel.alloc hbel _
            replace hsz : V.heap.size ≤ (w103.alloc (.cells #[.int .i64 0, .int .i64 0] 34)).heap.size := by simp only [World.size_alloc]; omega
            generalize (w103.alloc (.cells #[.int .i64 0, .int .i64 0] 34)) = w106 at hHeld hbel hsz HA11 hlo11 ⊢
            generalize w103.heap.size = a11 at HA11 hlo11 ⊢
            refine wpAnyH_ready (rs := [10]) (by kernel_rfl) (by simp) ?_
            refine AllReadyH.cons rfl (fun K hK => ?_) AllReadyH.nil
            · skip
              go_simp
              refine hK.out _ _ (⟨Blk.alloc _ hHeld.1, Blk.alloc _ hHeld.2.1, Blk.alloc _ hHeld.2.2.1, Blk.alloc _ hHeld.2.2.2.1, Blk.alloc _ hHeld.2.2.2.2.1, Blk.alloc _ hHeld.2.2.2.2.2.1, Blk.alloc _ hHeld.2.2.2.2.2.2⟩) (fun hHeld => ?_)
              clear hK K
              try simp only [Act.put, List.setIfInBounds_toArray, List.set_cons_zero, List.set_cons_succ]
              have HA10 := Blk.new w106 34 #[.int .i64 0, .int .i64 0]
              have hlt := HA11.lt
              have hne : w106.heap.size ≠ a11 := by omega
              replace HA11 : Blk (w106.alloc (.cells #[.int .i64 0, .int .i64 0] 34)) a11 34 #[.int .i64 0, .int .i64 0] := Blk.alloc _ HA11
              clear hlt
              have hlo10 : V.heap.size ≤ w106.heap.size := hsz
              replace hbel : Below w.heap.size w (w106.alloc (.cells #[.int .i64 0, .int .i64 0] 34)) := Bel.alloc hbel _
              replace hsz : V.heap.size ≤ (w106.alloc (.cells #[.int .i64 0, .int .i64 0] 34)).heap.size := by simp only [World.size_alloc]; omega
              generalize (w106.alloc (.cells #[.int .i64 0, .int .i64 0] 34)) = w107 at hHeld hbel hsz HA10 hlo10 HA11 hne ⊢
              generalize w106.heap.size = a10 at HA10 hlo10 hne ⊢
              exact key.out _ _ _ (And.intro hHeld (And.intro hbel (And.intro HA10 (And.intro hlo10 (And.intro HA11 (And.intro hlo11 (hne)))))))
        · skip
          go_simp
          refine hK.out _ _ (⟨Blk.alloc _ hHeld.1, Blk.alloc _ hHeld.2.1, Blk.alloc _ hHeld.2.2.1, Blk.alloc _ hHeld.2.2.2.1, Blk.alloc _ hHeld.2.2.2.2.1, Blk.alloc _ hHeld.2.2.2.2.2.1, Blk.alloc _ hHeld.2.2.2.2.2.2⟩) (fun hHeld => ?_)
          clear hK K
          try simp only [Act.put, List.setIfInBounds_toArray, List.set_cons_zero, List.set_cons_succ]
          have HA10 := Blk.new w102 34 #[.int .i64 0, .int .i64 0]
          have hlo10 : V.heap.size ≤ w102.heap.size := hsz
          replace hbel : Below w.heap.size w (w102.alloc (.cells #[.int .i64 0, .int .i64 0] 34)) := Bel.alloc hbel _
          replace hsz : V.heap.size ≤ (w102.alloc (.cells #[.int .i64 0, .int .i64 0] 34)).heap.size := by simp only [World.size_alloc]; omega
          generalize (w102.alloc (.cells #[.int .i64 0, .int .i64 0] 34)) = w108 at hHeld hbel hsz HA10 hlo10 ⊢
          generalize w102.heap.size = a10 at HA10 hlo10 ⊢
          refine wpAnyH_ready (rs := [5, 11]) (by kernel_rfl) (by simp) ?_
          refine AllReadyH.cons rfl (fun K hK => ?_) (AllReadyH.cons rfl (fun K hK => ?_) AllReadyH.nil)
          · skip
            go_simp
            go_at_call 40; refine (ReadRelease_I _ _ _ _ _ _ _ hn hm _ hHeld.2.2.2.2.2.2.ints).mono ?_; rintro e w109 ⟨rfl, hb109⟩
            go_wp2_with fail
            refine hK.out _ _ (⟨Blk.step hb109 hHeld.1, Blk.step hb109 hHeld.2.1, Blk.step hb109 hHeld.2.2.1, Blk.step hb109 hHeld.2.2.2.1, Blk.step hb109 hHeld.2.2.2.2.1, Blk.step hb109 hHeld.2.2.2.2.2.1, Blk.step hb109 hHeld.2.2.2.2.2.2⟩) (fun hHeld => ?_)
            clear hK K
            try simp only [Act.put, List.setIfInBounds_toArray, List.set_cons_zero, List.set_cons_succ]
            replace hbel := Bel.step hb109 hbel
            replace hsz : V.heap.size ≤ w109.heap.size := Nat.le_trans hsz hb109.size
            replace HA10 := Blk.step hb109 HA10
            clear hb109
            refine wpAnyH_take (i := 6) (v := (.tuple #[.agg #[.int .i64 (rl0 R ud ut vd vt), .int .i64 (rl1 R ud ut vd vt)], .agg #[.int .i64 (rl2 R ud ut vd vt), .int .i64 (rl3 R ud ut vd vt)], .int .i64 (rlC R ud ut vd vt)])) rfl (by kernel_rfl) (by kernel_rfl) (by kernel_rfl) (fun _ _ _ h => h) (Or.inl ⟨by rfl, fun w _ => by simp [go_sem, execOp]⟩) hHeld ?_
            try simp only [Act.put, List.setIfInBounds_toArray, List.set_cons_zero, List.set_cons_succ]
            refine wpAnyH_take (i := 7) (v := (.agg #[.int .i64 (rl0 R ud ut vd vt), .int .i64 (rl1 R ud ut vd vt)])) rfl (by kernel_rfl) (by kernel_rfl) (by kernel_rfl) (fun _ _ _ h => h) (Or.inl ⟨by rfl, fun w _ => by simp [go_sem, execOp]⟩) hHeld ?_
            try simp only [Act.put, List.setIfInBounds_toArray, List.set_cons_zero, List.set_cons_succ]
            refine wpAnyH_take (i := 8) (v := (.agg #[.int .i64 (rl2 R ud ut vd vt), .int .i64 (rl3 R ud ut vd vt)])) rfl (by kernel_rfl) (by kernel_rfl) (by kernel_rfl) (fun _ _ _ h => h) (Or.inl ⟨by rfl, fun w _ => by simp [go_sem, execOp]⟩) hHeld ?_
            try simp only [Act.put, List.setIfInBounds_toArray, List.set_cons_zero, List.set_cons_succ]
            refine wpAnyH_take (i := 9) (v := (.int .i64 (rlC R ud ut vd vt))) rfl (by kernel_rfl) (by kernel_rfl) (by kernel_rfl) (fun _ _ _ h => h) (Or.inl ⟨by rfl, fun w _ => by simp [go_sem, execOp]⟩) hHeld ?_
            try simp only [Act.put, List.setIfInBounds_toArray, List.set_cons_zero, List.set_cons_succ]
            refine wpAnyH_ready (rs := [11]) (by kernel_rfl) (by simp) ?_
            refine AllReadyH.cons rfl (fun K hK => ?_) AllReadyH.nil
            · skip
              go_simp
              refine hK.out _ _ (⟨Blk.alloc _ hHeld.1, Blk.alloc _ hHeld.2.1, Blk.alloc _ hHeld.2.2.1, Blk.alloc _ hHeld.2.2.2.1, Blk.alloc _ hHeld.2.2.2.2.1, Blk.alloc _ hHeld.2.2.2.2.2.1, Blk.alloc _ hHeld.2.2.2.2.2.2⟩) (fun hHeld => ?_)
              clear hK K
              try simp only [Act.put, List.setIfInBounds_toArray, List.set_cons_zero, List.set_cons_succ]
              have HA11 := Blk.new w109 34 #[.int .i64 0, .int .i64 0]
              have hlt := HA10.lt
              have hne : a10 ≠ w109.heap.size := by omega
              replace HA10 : Blk (w109.alloc (.cells #[.int .i64 0, .int .i64 0] 34)) a10 34 #[.int .i64 0, .int .i64 0] := Blk.alloc _ HA10
              clear hlt
              have hlo11 : V.heap.size ≤ w109.heap.size := hsz
              replace hbel : Below w.heap.size w (w109.alloc (.cells #[.int .i64 0, .int .i64 0] 34)) := Bel.alloc hbel _
              replace hsz : V.heap.size ≤ (w109.alloc (.cells #[.int .i64 0, .int .i64 0] 34)).heap.size := by simp only [World.size_alloc]; omega
              generalize (w109.alloc (.cells #[.int .i64 0, .int .i64 0] 34)) = w110 at hHeld hbel hsz HA11 hlo11 HA10 hne ⊢
              generalize w109.heap.size = a11 at HA11 hlo11 hne ⊢
              exact key.out _ _ _ (And.intro hHeld (And.intro hbel (And.intro HA10 (And.intro hlo10 (And.intro HA11 (And.intro hlo11 (hne)))))))
          · skip
            go_simp
            refine hK.out _ _ (⟨Blk.alloc _ hHeld.1, Blk.alloc _ hHeld.2.1, Blk.alloc _ hHeld.2.2.1, Blk.alloc _ hHeld.2.2.2.1, Blk.alloc _ hHeld.2.2.2.2.1, Blk.alloc _ hHeld.2.2.2.2.2.1, Blk.alloc _ hHeld.2.2.2.2.2.2⟩) (fun hHeld => ?_)
            clear hK K
            try simp only [Act.put, List.setIfInBounds_toArray, List.set_cons_zero, List.set_cons_succ]
            have HA11 := Blk.new w108 34 #[.int .i64 0, .int .i64 0]
            have hlt := HA10.lt
            have hne : a10 ≠ w108.heap.size := by omega
            replace HA10 : Blk (w108.alloc (.cells #[.int .i64 0, .int .i64 0] 34)) a10 34 #[.int .i64 0, .int .i64 0] := Blk.alloc _ HA10
            clear hlt
            have hlo11 : V.heap.size ≤ w108.heap.size := hsz
            replace hbel : Below w.heap.size w (w108.alloc (.cells #[.int .i64 0, .int .i64 0] 34)) := Bel.alloc hbel _
            replace hsz : V.heap.size ≤ (w108.alloc (.cells #[.int .i64 0, .int .i64 0] 34)).heap.size := by simp only [World.size_alloc]; omega
            generalize (w108.alloc (.cells #[.int .i64 0, .int .i64 0] 34)) = w111 at hHeld hbel hsz HA11 hlo11 HA10 hne ⊢
            generalize w108.heap.size = a11 at HA11 hlo11 hne ⊢
            refine wpAnyH_ready (rs := [5]) (by kernel_rfl) (by simp) ?_
            refine AllReadyH.cons rfl (fun K hK => ?_) AllReadyH.nil
            · skip
              go_simp
              go_at_call 40; refine (ReadRelease_I _ _ _ _ _ _ _ hn hm _ hHeld.2.2.2.2.2.2.ints).mono ?_; rintro e w112 ⟨rfl, hb112⟩
              go_wp2_with fail
              refine hK.out _ _ (⟨Blk.step hb112 hHeld.1, Blk.step hb112 hHeld.2.1, Blk.step hb112 hHeld.2.2.1, Blk.step hb112 hHeld.2.2.2.1, Blk.step hb112 hHeld.2.2.2.2.1, Blk.step hb112 hHeld.2.2.2.2.2.1, Blk.step hb112 hHeld.2.2.2.2.2.2⟩) (fun hHeld => ?_)
              clear hK K
              try simp only [Act.put, List.setIfInBounds_toArray, List.set_cons_zero, List.set_cons_succ]
              replace hbel := Bel.step hb112 hbel
              replace hsz : V.heap.size ≤ w112.heap.size := Nat.le_trans hsz hb112.size
              replace HA10 := Blk.step hb112 HA10
              replace HA11 := Blk.step hb112 HA11
              clear hb112
              refine wpAnyH_take (i := 6) (v := (.tuple #[.agg #[.int .i64 (rl0 R ud ut vd vt), .int .i64 (rl1 R ud ut vd vt)], .agg #[.int .i64 (rl2 R ud ut vd vt), .int .i64 (rl3 R ud ut vd vt)], .int .i64 (rlC R ud ut vd vt)])) rfl (by kernel_rfl) (by kernel_rfl) (by kernel_rfl) (fun _ _ _ h => h) (Or.inl ⟨by rfl, fun w _ => by simp [go_sem, execOp]⟩) hHeld ?_
              try simp only [Act.put, List.setIfInBounds_toArray, List.set_cons_zero, List.set_cons_succ]
              refine wpAnyH_take (i := 7) (v := (.agg #[.int .i64 (rl0 R ud ut vd vt), .int .i64 (rl1 R ud ut vd vt)])) rfl (by kernel_rfl) (by kernel_rfl) (by kernel_rfl) (fun _ _ _ h => h) (Or.inl ⟨by rfl, fun w _ => by simp [go_sem, execOp]⟩) hHeld ?_
              try simp only [Act.put, List.setIfInBounds_toArray, List.set_cons_zero, List.set_cons_succ]
              refine wpAnyH_take (i := 8) (v := (.agg #[.int .i64 (rl2 R ud ut vd vt), .int .i64 (rl3 R ud ut vd vt)])) rfl (by kernel_rfl) (by kernel_rfl) (by kernel_rfl) (fun _ _ _ h => h) (Or.inl ⟨by rfl, fun w _ => by simp [go_sem, execOp]⟩) hHeld ?_
              try simp only [Act.put, List.setIfInBounds_toArray, List.set_cons_zero, List.set_cons_succ]
              refine wpAnyH_take (i := 9) (v := (.int .i64 (rlC R ud ut vd vt))) rfl (by kernel_rfl) (by kernel_rfl) (by kernel_rfl) (fun _ _ _ h => h) (Or.inl ⟨by rfl, fun w _ => by simp [go_sem, execOp]⟩) hHeld ?_
              try simp only [Act.put, List.setIfInBounds_toArray, List.set_cons_zero, List.set_cons_succ]
              exact key.out _ _ _ (And.intro hHeld (And.intro hbel (And.intro HA10 (And.intro hlo10 (And.intro HA11 (And.intro hlo11 (hne)))))))
        · skip
          go_simp
          refine hK.out _ _ (⟨Blk.alloc _ hHeld.1, Blk.alloc _ hHeld.2.1, Blk.alloc _ hHeld.2.2.1, Blk.alloc _ hHeld.2.2.2.1, Blk.alloc _ hHeld.2.2.2.2.1, Blk.alloc _ hHeld.2.2.2.2.2.1, Blk.alloc _ hHeld.2.2.2.2.2.2⟩) (fun hHeld => ?_)
          clear hK K
          try simp only [Act.put, List.setIfInBounds_toArray, List.set_cons_zero, List.set_cons_succ]
          have HA11 := Blk.new w102 34 #[.int .i64 0, .int .i64 0]
          have hlo11 : V.heap.size ≤ w102.heap.size := hsz
          replace hbel : Below w.heap.size w (w102.alloc (.cells #[.int .i64 0, .int .i64 0] 34)) := Bel.alloc hbel _
          replace hsz : V.heap.size ≤ (w102.alloc (.cells #[.int .i64 0, .int .i64 0] 34)).heap.size := by simp only [World.size_alloc]; omega
          generalize (w102.alloc (.cells #[.int .i64 0, .int .i64 0] 34)) = w113 at hHeld hbel hsz HA11 hlo11 ⊢
          generalize w102.heap.size = a11 at HA11 hlo11 ⊢
          refine wpAnyH_ready (rs := [5, 10]) (by kernel_rfl) (by simp) ?_
          refine AllReadyH.cons rfl (fun K hK => ?_) (AllReadyH.cons rfl (fun K hK => ?_) AllReadyH.nil)
          · skip
            go_simp
            go_at_call 40; refine (ReadRelease_I _ _ _ _ _ _ _ hn hm _ hHeld.2.2.2.2.2.2.ints).mono ?_; rintro e w114 ⟨rfl, hb114⟩
            go_wp2_with fail
            refine hK.out _ _ (⟨Blk.step hb114 hHeld.1, Blk.step hb114 hHeld.2.1, Blk.step hb114 hHeld.2.2.1, Blk.step hb114 hHeld.2.2.2.1, Blk.step hb114 hHeld.2.2.2.2.1, Blk.step hb114 hHeld.2.2.2.2.2.1, Blk.step hb114 hHeld.2.2.2.2.2.2⟩) (fun hHeld => ?_)
            clear hK K
            try simp only [Act.put, List.setIfInBounds_toArray, List.set_cons_zero, List.set_cons_succ]
            replace hbel := Bel.step hb114 hbel
            replace hsz : V.heap.size ≤ w114.heap.size := Nat.le_trans hsz hb114.size
            replace HA11 := Blk.step hb114 HA11
            clear hb114
            refine wpAnyH_take (i := 6) (v := (.tuple #[.agg #[.int .i64 (rl0 R ud ut vd vt), .int .i64 (rl1 R ud ut vd vt)], .agg #[.int .i64 (rl2 R ud ut vd vt), .int .i64 (rl3 R ud ut vd vt)], .int .i64 (rlC R ud ut vd vt)])) rfl (by kernel_rfl) (by kernel_rfl) (by kernel_rfl) (fun _ _ _ h => h) (Or.inl ⟨by rfl, fun w _ => by simp [go_sem, execOp]⟩) hHeld ?_
            try simp only [Act.put, List.setIfInBounds_toArray, List.set_cons_zero, List.set_cons_succ]
            refine wpAnyH_take (i := 7) (v := (.agg #[.int .i64 (rl0 R ud ut vd vt), .int .i64 (rl1 R ud ut vd vt)])) rfl (by kernel_rfl) (by kernel_rfl) (by kernel_rfl) (fun _ _ _ h => h) (Or.inl ⟨by rfl, fun w _ => by simp [go_sem, execOp]⟩) hHeld ?_
            try simp only [Act.put, List.setIfInBounds_toArray, List.set_cons_zero, List.set_cons_succ]
            refine wpAnyH_take (i := 8) (v := (.agg #[.int .i64 (rl2 R ud ut vd vt), .int .i64 (rl3 R ud ut vd vt)])) rfl (by kernel_rfl) (by kernel_rfl) (by kernel_rfl) (fun _ _ _ h => h) (Or.inl ⟨by rfl, fun w _ => by simp [go_sem, execOp]⟩) hHeld ?_
            try simp only [Act.put, List.setIfInBounds_toArray, List.set_cons_zero, List.set_cons_succ]
            refine wpAnyH_take (i := 9) (v := (.int .i64 (rlC R ud ut vd vt))) rfl (by kernel_rfl) (by kernel_rfl) (by kernel_rfl) (fun _ _ _ h => h) (Or.inl ⟨by rfl, fun w _ => by simp [go_sem, execOp]⟩) hHeld ?_
            try simp only [Act.put, List.setIfInBounds_toArray, List.set_cons_zero, List.set_cons_succ]
            refine wpAnyH_ready (rs := [10]) (by kernel_rfl) (by simp) ?_
            refine AllReadyH.cons rfl (fun K hK => ?_) AllReadyH.nil
            · skip
              go_simp
              refine hK.out _ _ (⟨Blk.alloc _ hHeld.1, Blk.alloc _ hHeld.2.1, Blk.alloc _ hHeld.2.2.1, Blk.alloc _ hHeld.2.2.2.1, Blk.alloc _ hHeld.2.2.2.2.1, Blk.alloc _ hHeld.2.2.2.2.2.1, Blk.alloc _ hHeld.2.2.2.2.2.2⟩) (fun hHeld => ?_)
              clear hK K
              try simp only [Act.put, List.setIfInBounds_toArray, List.set_cons_zero, List.set_cons_succ]
              have HA10 := Blk.new w114 34 #[.int .i64 0, .int .i64 0]
              have hlt := HA11.lt
              have hne : w114.heap.size ≠ a11 := by omega
              replace HA11 : Blk (w114.alloc (.cells #[.int .i64 0, .int .i64 0] 34)) a11 34 #[.int .i64 0, .int .i64 0] := Blk.alloc _ HA11
              clear hlt
              have hlo10 : V.heap.size ≤ w114.heap.size := hsz
              replace hbel : Below w.heap.size w (w114.alloc (.cells #[.int .i64 0, .int .i64 0] 34)) := Bel.alloc hbel _
              replace hsz : V.heap.size ≤ (w114.alloc (.cells #[.int .i64 0, .int .i64 0] 34)).heap.size := by simp only [World.size_alloc]; omega
              generalize (w114.alloc (.cells #[.int .i64 0, .int .i64 0] 34)) = w115 at hHeld hbel hsz HA10 hlo10 HA11 hne ⊢
              generalize w114.heap.size = a10 at HA10 hlo10 hne ⊢
              exact key.out _ _ _ (And.intro hHeld (And.intro hbel (And.intro HA10 (And.intro hlo10 (And.intro HA11 (And.intro hlo11 (hne)))))))
          · skip
            go_simp
            refine hK.out _ _ (⟨Blk.alloc _ hHeld.1, Blk.alloc _ hHeld.2.1, Blk.alloc _ hHeld.2.2.1, Blk.alloc _ hHeld.2.2.2.1, Blk.alloc _ hHeld.2.2.2.2.1, Blk.alloc _ hHeld.2.2.2.2.2.1, Blk.alloc _ hHeld.2.2.2.2.2.2⟩) (fun hHeld => ?_)
            clear hK K
            try simp only [Act.put, List.setIfInBounds_toArray, List.set_cons_zero, List.set_cons_succ]
            have HA10 := Blk.new w113 34 #[.int .i64 0, .int .i64 0]
            have hlt := HA11.lt
            have hne : w113.heap.size ≠ a11 := by omega
            replace HA11 : Blk (w113.alloc (.cells #[.int .i64 0, .int .i64 0] 34)) a11 34 #[.int .i64 0, .int .i64 0] := Blk.alloc _ HA11
            clear hlt
            have hlo10 : V.heap.size ≤ w113.heap.size := hsz
            replace hbel : Below w.heap.size w (w113.alloc (.cells #[.int .i64 0, .int .i64 0] 34)) := Bel.alloc hbel _
            replace hsz : V.heap.size ≤ (w113.alloc (.cells #[.int .i64 0, .int .i64 0] 34)).heap.size := by simp only [World.size_alloc]; omega
            generalize (w113.alloc (.cells #[.int .i64 0, .int .i64 0] 34)) = w116 at hHeld hbel hsz HA10 hlo10 HA11 hne ⊢
            generalize w113.heap.size = a10 at HA10 hlo10 hne ⊢
            refine wpAnyH_ready (rs := [5]) (by kernel_rfl) (by simp) ?_
            refine AllReadyH.cons rfl (fun K hK => ?_) AllReadyH.nil
            · skip
              go_simp
              go_at_call 40; refine (ReadRelease_I _ _ _ _ _ _ _ hn hm _ hHeld.2.2.2.2.2.2.ints).mono ?_; rintro e w117 ⟨rfl, hb117⟩
              go_wp2_with fail
              refine hK.out _ _ (⟨Blk.step hb117 hHeld.1, Blk.step hb117 hHeld.2.1, Blk.step hb117 hHeld.2.2.1, Blk.step hb117 hHeld.2.2.2.1, Blk.step hb117 hHeld.2.2.2.2.1, Blk.step hb117 hHeld.2.2.2.2.2.1, Blk.step hb117 hHeld.2.2.2.2.2.2⟩) (fun hHeld => ?_)
              clear hK K
              try simp only [Act.put, List.setIfInBounds_toArray, List.set_cons_zero, List.set_cons_succ]
              replace hbel := Bel.step hb117 hbel
              replace hsz : V.heap.size ≤ w117.heap.size := Nat.le_trans hsz hb117.size
              replace HA10 := Blk.step hb117 HA10
              replace HA11 := Blk.step hb117 HA11
              clear hb117
              refine wpAnyH_take (i := 6) (v := (.tuple #[.agg #[.int .i64 (rl0 R ud ut vd vt), .int .i64 (rl1 R ud ut vd vt)], .agg #[.int .i64 (rl2 R ud ut vd vt), .int .i64 (rl3 R ud ut vd vt)], .int .i64 (rlC R ud ut vd vt)])) rfl (by kernel_rfl) (by kernel_rfl) (by kernel_rfl) (fun _ _ _ h => h) (Or.inl ⟨by rfl, fun w _ => by simp [go_sem, execOp]⟩) hHeld ?_
              try simp only [Act.put, List.setIfInBounds_toArray, List.set_cons_zero, List.set_cons_succ]
              refine wpAnyH_take (i := 7) (v := (.agg #[.int .i64 (rl0 R ud ut vd vt), .int .i64 (rl1 R ud ut vd vt)])) rfl (by kernel_rfl) (by kernel_rfl) (by kernel_rfl) (fun _ _ _ h => h) (Or.inl ⟨by rfl, fun w _ => by simp [go_sem, execOp]⟩) hHeld ?_
              try simp only [Act.put, List.setIfInBounds_toArray, List.set_cons_zero, List.set_cons_succ]
              refine wpAnyH_take (i := 8) (v := (.agg #[.int .i64 (rl2 R ud ut vd vt), .int .i64 (rl3 R ud ut vd vt)])) rfl (by kernel_rfl) (by kernel_rfl) (by kernel_rfl) (fun _ _ _ h => h) (Or.inl ⟨by rfl, fun w _ => by simp [go_sem, execOp]⟩) hHeld ?_
              try simp only [Act.put, List.setIfInBounds_toArray, List.set_cons_zero, List.set_cons_succ]
              refine wpAnyH_take (i := 9) (v := (.int .i64 (rlC R ud ut vd vt))) rfl (by kernel_rfl) (by kernel_rfl) (by kernel_rfl) (fun _ _ _ h => h) (Or.inl ⟨by rfl, fun w _ => by simp [go_sem, execOp]⟩) hHeld ?_
              try simp only [Act.put, List.setIfInBounds_toArray, List.set_cons_zero, List.set_cons_succ]
              exact key.out _ _ _ (And.intro hHeld (And.intro hbel (And.intro HA10 (And.intro hlo10 (And.intro HA11 (And.intro hlo11 (hne)))))))
      · skip
        go_simp
        refine hK.out _ _ (⟨Blk.alloc _ hHeld.1, Blk.alloc _ hHeld.2.1, Blk.alloc _ hHeld.2.2.1, Blk.alloc _ hHeld.2.2.2.1, Blk.alloc _ hHeld.2.2.2.2.1, Blk.alloc _ hHeld.2.2.2.2.2.1, Blk.alloc _ hHeld.2.2.2.2.2.2⟩) (fun hHeld => ?_)
        clear hK K
        try simp only [Act.put, List.setIfInBounds_toArray, List.set_cons_zero, List.set_cons_succ]
        have HA10 := Blk.new w101 34 #[.int .i64 0, .int .i64 0]
        have hlo10 : V.heap.size ≤ w101.heap.size := hsz
        replace hbel : Below w.heap.size w (w101.alloc (.cells #[.int .i64 0, .int .i64 0] 34)) := Bel.alloc hbel _
        replace hsz : V.heap.size ≤ (w101.alloc (.cells #[.int .i64 0, .int .i64 0] 34)).heap.size := by simp only [World.size_alloc]; omega
        generalize (w101.alloc (.cells #[.int .i64 0, .int .i64 0] 34)) = w118 at hHeld hbel hsz HA10 hlo10 ⊢
        generalize w101.heap.size = a10 at HA10 hlo10 ⊢
        refine wpAnyH_ready (rs := [4, 11]) (by kernel_rfl) (by simp) ?_
        refine AllReadyH.cons rfl (fun K hK => ?_) (AllReadyH.cons rfl (fun K hK => ?_) AllReadyH.nil)
        · skip
          go_simp
          go_at_call 30; refine (toFigure_c vd vt _).mono ?_; rintro e w119 ⟨rfl, hb119⟩
          go_wp2_with fail
          refine hK.out _ _ (⟨Blk.step hb119 hHeld.1, Blk.step hb119 hHeld.2.1, Blk.step hb119 hHeld.2.2.1, Blk.step hb119 hHeld.2.2.2.1, Blk.step hb119 hHeld.2.2.2.2.1, Blk.step hb119 hHeld.2.2.2.2.2.1, Blk.step hb119 hHeld.2.2.2.2.2.2⟩) (fun hHeld => ?_)
          clear hK K
          try simp only [Act.put, List.setIfInBounds_toArray, List.set_cons_zero, List.set_cons_succ]
          replace hbel := Bel.step hb119 hbel
          replace hsz : V.heap.size ≤ w119.heap.size := Nat.le_trans hsz hb119.size
          replace HA10 := Blk.step hb119 HA10
          clear hb119
          refine wpAnyH_ready (rs := [5, 11]) (by kernel_rfl) (by simp) ?_
          refine AllReadyH.cons rfl (fun K hK => ?_) (AllReadyH.cons rfl (fun K hK => ?_) AllReadyH.nil)
          · skip
            go_simp
            go_at_call 40; refine (ReadRelease_I _ _ _ _ _ _ _ hn hm _ hHeld.2.2.2.2.2.2.ints).mono ?_; rintro e w120 ⟨rfl, hb120⟩
            go_wp2_with fail
            refine hK.out _ _ (⟨Blk.step hb120 hHeld.1, Blk.step hb120 hHeld.2.1, Blk.step hb120 hHeld.2.2.1, Blk.step hb120 hHeld.2.2.2.1, Blk.step hb120 hHeld.2.2.2.2.1, Blk.step hb120 hHeld.2.2.2.2.2.1, Blk.step hb120 hHeld.2.2.2.2.2.2⟩) (fun hHeld => ?_)
            clear hK K
            try simp only [Act.put, List.setIfInBounds_toArray, List.set_cons_zero, List.set_cons_succ]
            replace hbel := Bel.step hb120 hbel
            replace hsz : V.heap.size ≤ w120.heap.size := Nat.le_trans hsz hb120.size
            replace HA10 := Blk.step hb120 HA10
            clear hb120
            refine wpAnyH_take (i := 6) (v := (.tuple #[.agg #[.int .i64 (rl0 R ud ut vd vt), .int .i64 (rl1 R ud ut vd vt)], .agg #[.int .i64 (rl2 R ud ut vd vt), .int .i64 (rl3 R ud ut vd vt)], .int .i64 (rlC R ud ut vd vt)])) rfl (by kernel_rfl) (by kernel_rfl) (by kernel_rfl) (fun _ _ _ h => h) (Or.inl ⟨by rfl, fun w _ => by simp [go_sem, execOp]⟩) hHeld ?_
            try simp only [Act.put, List.setIfInBounds_toArray, List.set_cons_zero, List.set_cons_succ]
            refine wpAnyH_take (i := 7) (v := (.agg #[.int .i64 (rl0 R ud ut vd vt), .int .i64 (rl1 R ud ut vd vt)])) rfl (by kernel_rfl) (by kernel_rfl) (by kernel_rfl) (fun _ _ _ h => h) (Or.inl ⟨by rfl, fun w _ => by simp [go_sem, execOp]⟩) hHeld ?_
            try simp only [Act.put, List.setIfInBounds_toArray, List.set_cons_zero, List.set_cons_succ]
            refine wpAnyH_take (i := 8) (v := (.agg #[.int .i64 (rl2 R ud ut vd vt), .int .i64 (rl3 R ud ut vd vt)])) rfl (by kernel_rfl) (by kernel_rfl) (by kernel_rfl) (fun _ _ _ h => h) (Or.inl ⟨by rfl, fun w _ => by simp [go_sem, execOp]⟩) hHeld ?_
            try simp only [Act.put, List.setIfInBounds_toArray, List.set_cons_zero, List.set_cons_succ]
            refine wpAnyH_take (i := 9) (v := (.int .i64 (rlC R ud ut vd vt))) rfl (by kernel_rfl) (by kernel_rfl) (by kernel_rfl) (fun _ _ _ h => h) (Or.inl ⟨by rfl, fun w _ => by simp [go_sem, execOp]⟩) hHeld ?_
            try simp only [Act.put, List.setIfInBounds_toArray, List.set_cons_zero, List.set_cons_succ]
            refine wpAnyH_ready (rs := [11]) (by kernel_rfl) (by simp) ?_
            refine AllReadyH.cons rfl (fun K hK => ?_) AllReadyH.nil
            · skip
              go_simp
              refine hK.out _ _ (⟨Blk.alloc _ hHeld.1, Blk.alloc _ hHeld.2.1, Blk.alloc _ hHeld.2.2.1, Blk.alloc _ hHeld.2.2.2.1, Blk.alloc _ hHeld.2.2.2.2.1, Blk.alloc _ hHeld.2.2.2.2.2.1, Blk.alloc _ hHeld.2.2.2.2.2.2⟩) (fun hHeld => ?_)
              clear hK K
              try simp only [Act.put, List.setIfInBounds_toArray, List.set_cons_zero, List.set_cons_succ]
              have HA11 := Blk.new w120 34 #[.int .i64 0, .int .i64 0]
              have hlt := HA10.lt
              have hne : a10 ≠ w120.heap.size := by omega
              replace HA10 : Blk (w120.alloc (.cells #[.int .i64 0, .int .i64 0] 34)) a10 34 #[.int .i64 0, .int .i64 0] := Blk.alloc _ HA10
              clear hlt
              have hlo11 : V.heap.size ≤ w120.heap.size := hsz
              replace hbel : Below w.heap.size w (w120.alloc (.cells #[.int .i64 0, .int .i64 0] 34)) := Bel.alloc hbel _
              replace hsz : V.heap.size ≤ (w120.alloc (.cells #[.int .i64 0, .int .i64 0] 34)).heap.size := by simp only [World.size_alloc]; omega
              generalize (w120.alloc (.cells #[.int .i64 0, .int .i64 0] 34)) = w121 at hHeld hbel hsz HA11 hlo11 HA10 hne ⊢
              generalize w120.heap.size = a11 at HA11 hlo11 hne ⊢
              exact key.out _ _ _ (And.intro hHeld (And.intro hbel (And.intro HA10 (And.intro hlo10 (And.intro HA11 (And.intro hlo11 (hne)))))))
          · skip
            go_simp
            refine hK.out _ _ (⟨Blk.alloc _ hHeld.1, Blk.alloc _ hHeld.2.1, Blk.alloc _ hHeld.2.2.1, Blk.alloc _ hHeld.2.2.2.1, Blk.alloc _ hHeld.2.2.2.2.1, Blk.alloc _ hHeld.2.2.2.2.2.1, Blk.alloc _ hHeld.2.2.2.2.2.2⟩) (fun hHeld => ?_)
            clear hK K
            try simp only [Act.put, List.setIfInBounds_toArray, List.set_cons_zero, List.set_cons_succ]
            have HA11 := Blk.new w119 34 #[.int .i64 0, .int .i64 0]
            have hlt := HA10.lt
            have hne : a10 ≠ w119.heap.size := by omega
            replace HA10 : Blk (w119.alloc (.cells #[.int .i64 0, .int .i64 0] 34)) a10 34 #[.int .i64 0, .int .i64 0] := Blk.alloc _ HA10
            clear hlt
            have hlo11 : V.heap.size ≤ w119.heap.size := hsz
            replace hbel : Below w.heap.size w (w119.alloc (.cells #[.int .i64 0, .int .i64 0] 34)) := Bel.alloc hbel _
            replace hsz : V.heap.size ≤ (w119.alloc (.cells #[.int .i64 0, .int .i64 0] 34)).heap.size := by simp only [World.size_alloc]; omega
            generalize (w119.alloc (.cells #[.int .i64 0, .int .i64 0] 34)) = w122 at hHeld hbel hsz HA11 hlo11 HA10 hne ⊢
            generalize w119.heap.size = a11 at HA11 hlo11 hne ⊢
            refine wpAnyH_ready (rs := [5]) (by kernel_rfl) (by simp) ?_
            refine AllReadyH.cons rfl (fun K hK => ?_) AllReadyH.nil
            · skip
              go_simp
              go_at_call 40; refine (ReadRelease_I _ _ _ _ _ _ _ hn hm _ hHeld.2.2.2.2.2.2.ints).mono ?_; rintro e w123 ⟨rfl, hb123⟩
              go_wp2_with fail
              refine hK.out _ _ (⟨Blk.step hb123 hHeld.1, Blk.step hb123 hHeld.2.1, Blk.step hb123 hHeld.2.2.1, Blk.step hb123 hHeld.2.2.2.1, Blk.step hb123 hHeld.2.2.2.2.1, Blk.step hb123 hHeld.2.2.2.2.2.1, Blk.step hb123 hHeld.2.2.2.2.2.2⟩) (fun hHeld => ?_)
              clear hK K
              try simp only [Act.put, List.setIfInBounds_toArray, List.set_cons_zero, List.set_cons_succ]
              replace hbel := Bel.step hb123 hbel
              replace hsz : V.heap.size ≤ w123.heap.size := Nat.le_trans hsz hb123.size
              replace HA10 := Blk.step hb123 HA10
              replace HA11 := Blk.step hb123 HA11
              clear hb123
              refine wpAnyH_take (i := 6) (v := (.tuple #[.agg #[.int .i64 (rl0 R ud ut vd vt), .int .i64 (rl1 R ud ut vd vt)], .agg #[.int .i64 (rl2 R ud ut vd vt), .int .i64 (rl3 R ud ut vd vt)], .int .i64 (rlC R ud ut vd vt)])) rfl (by kernel_rfl) (by kernel_rfl) (by kernel_rfl) (fun _ _ _ h => h) (Or.inl ⟨by rfl, fun w _ => by simp [go_sem, execOp]⟩) hHeld ?_
              try simp only [Act.put, List.setIfInBounds_toArray, List.set_cons_zero, List.set_cons_succ]
              refine wpAnyH_take (i := 7) (v := (.agg #[.int .i64 (rl0 R ud ut vd vt), .int .i64 (rl1 R ud ut vd vt)])) rfl (by kernel_rfl) (by kernel_rfl) (by kernel_rfl) (fun _ _ _ h => h) (Or.inl ⟨by rfl, fun w _ => by simp [go_sem, execOp]⟩) hHeld ?_
              try simp only [Act.put, List.setIfInBounds_toArray, List.set_cons_zero, List.set_cons_succ]
              refine wpAnyH_take (i := 8) (v := (.agg #[.int .i64 (rl2 R ud ut vd vt), .int .i64 (rl3 R ud ut vd vt)])) rfl (by kernel_rfl) (by kernel_rfl) (by kernel_rfl) (fun _ _ _ h => h) (Or.inl ⟨by rfl, fun w _ => by simp [go_sem, execOp]⟩) hHeld ?_
              try simp only [Act.put, List.setIfInBounds_toArray, List.set_cons_zero, List.set_cons_succ]
              refine wpAnyH_take (i := 9) (v := (.int .i64 (rlC R ud ut vd vt))) rfl (by kernel_rfl) (by kernel_rfl) (by kernel_rfl) (fun _ _ _ h => h) (Or.inl ⟨by rfl, fun w _ => by simp [go_sem, execOp]⟩) hHeld ?_
              try simp only [Act.put, List.setIfInBounds_toArray, List.set_cons_zero, List.set_cons_succ]
              exact key.out _ _ _ (And.intro hHeld (And.intro hbel (And.intro HA10 (And.intro hlo10 (And.intro HA11 (And.intro hlo11 (hne)))))))
        · skip
          go_simp
          refine hK.out _ _ (⟨Blk.alloc _ hHeld.1, Blk.alloc _ hHeld.2.1, Blk.alloc _ hHeld.2.2.1, Blk.alloc _ hHeld.2.2.2.1, Blk.alloc _ hHeld.2.2.2.2.1, Blk.alloc _ hHeld.2.2.2.2.2.1, Blk.alloc _ hHeld.2.2.2.2.2.2⟩) (fun hHeld => ?_)
          clear hK K
          try simp only [Act.put, List.setIfInBounds_toArray, List.set_cons_zero, List.set_cons_succ]
          have HA11 := Blk.new w118 34 #[.int .i64 0, .int .i64 0]
          have hlt := HA10.lt
          have hne : a10 ≠ w118.heap.size := by omega
          replace HA10 : Blk (w118.alloc (.cells #[.int .i64 0, .int .i64 0] 34)) a10 34 #[.int .i64 0, .int .i64 0] := Blk.alloc _ HA10
          clear hlt
          have hlo11 : V.heap.size ≤ w118.heap.size := hsz
          replace hbel : Below w.heap.size w (w118.alloc (.cells #[.int .i64 0, .int .i64 0] 34)) := Bel.alloc hbel _
          replace hsz : V.heap.size ≤ (w118.alloc (.cells #[.int .i64 0, .int .i64 0] 34)).heap.size := by simp only [World.size_alloc]; omega
          generalize (w118.alloc (.cells #[.int .i64 0, .int .i64 0] 34)) = w124 at hHeld hbel hsz HA11 hlo11 HA10 hne ⊢
          generalize w118.heap.size = a11 at HA11 hlo11 hne ⊢
          refine wpAnyH_ready (rs := [4]) (by kernel_rfl) (by simp) ?_
          refine AllReadyH.cons rfl (fun K hK => ?_) AllReadyH.nil
          · skip
            go_simp
            go_at_call 30; refine (toFigure_c vd vt _).mono ?_; rintro e w125 ⟨rfl, hb125⟩
            go_wp2_with fail
            refine hK.out _ _ (⟨Blk.step hb125 hHeld.1, Blk.step hb125 hHeld.2.1, Blk.step hb125 hHeld.2.2.1, Blk.step hb125 hHeld.2.2.2.1, Blk.step hb125 hHeld.2.2.2.2.1, Blk.step hb125 hHeld.2.2.2.2.2.1, Blk.step hb125 hHeld.2.2.2.2.2.2⟩) (fun hHeld => ?_)
            clear hK K
            try simp only [Act.put, List.setIfInBounds_toArray, List.set_cons_zero, List.set_cons_succ]
            replace hbel := Bel.step hb125 hbel
            replace hsz : V.heap.size ≤ w125.heap.size := Nat.le_trans hsz hb125.size
            replace HA10 := Blk.step hb125 HA10
            replace HA11 := Blk.step hb125 HA11
            clear hb125
            refine wpAnyH_ready (rs := [5]) (by kernel_rfl) (by simp) ?_
            refine AllReadyH.cons rfl (fun K hK => ?_) AllReadyH.nil
            · skip
              go_simp
              go_at_call 40; refine (ReadRelease_I _ _ _ _ _ _ _ hn hm _ hHeld.2.2.2.2.2.2.ints).mono ?_; rintro e w126 ⟨rfl, hb126⟩
              go_wp2_with fail
              refine hK.out _ _ (⟨Blk.step hb126 hHeld.1, Blk.step hb126 hHeld.2.1, Blk.step hb126 hHeld.2.2.1, Blk.step hb126 hHeld.2.2.2.1, Blk.step hb126 hHeld.2.2.2.2.1, Blk.step hb126 hHeld.2.2.2.2.2.1, Blk.step hb126 hHeld.2.2.2.2.2.2⟩) (fun hHeld => ?_)
              clear hK K
              try simp only [Act.put, List.setIfInBounds_toArray, List.set_cons_zero, List.set_cons_succ]
              replace hbel := Bel.step hb126 hbel
              replace hsz : V.heap.size ≤ w126.heap.size := Nat.le_trans hsz hb126.size
              replace HA10 := Blk.step hb126 HA10
              replace HA11 := Blk.step hb126 HA11
              clear hb126
              refine wpAnyH_take (i := 6) (v := (.tuple #[.agg #[.int .i64 (rl0 R ud ut vd vt), .int .i64 (rl1 R ud ut vd vt)], .agg #[.int .i64 (rl2 R ud ut vd vt), .int .i64 (rl3 R ud ut vd vt)], .int .i64 (rlC R ud ut vd vt)])) rfl (by kernel_rfl) (by kernel_rfl) (by kernel_rfl) (fun _ _ _ h => h) (Or.inl ⟨by rfl, fun w _ => by simp [go_sem, execOp]⟩) hHeld ?_
              try simp only [Act.put, List.setIfInBounds_toArray, List.set_cons_zero, List.set_cons_succ]
              refine wpAnyH_take (i := 7) (v := (.agg #[.int .i64 (rl0 R ud ut vd vt), .int .i64 (rl1 R ud ut vd vt)])) rfl (by kernel_rfl) (by kernel_rfl) (by kernel_rfl) (fun _ _ _ h => h) (Or.inl ⟨by rfl, fun w _ => by simp [go_sem, execOp]⟩) hHeld ?_
              try simp only [Act.put, List.setIfInBounds_toArray, List.set_cons_zero, List.set_cons_succ]
              refine wpAnyH_take (i := 8) (v := (.agg #[.int .i64 (rl2 R ud ut vd vt), .int .i64 (rl3 R ud ut vd vt)])) rfl (by kernel_rfl) (by kernel_rfl) (by kernel_rfl) (fun _ _ _ h => h) (Or.inl ⟨by rfl, fun w _ => by simp [go_sem, execOp]⟩) hHeld ?_
              try simp only [Act.put, List.setIfInBounds_toArray, List.set_cons_zero, List.set_cons_succ]
              refine wpAnyH_take (i := 9) (v := (.int .i64 (rlC R ud ut vd vt))) rfl (by kernel_rfl) (by kernel_rfl) (by kernel_rfl) (fun _ _ _ h => h) (Or.inl ⟨by rfl, fun w _ => by simp [go_sem, execOp]⟩) hHeld ?_
              try simp only [Act.put, List.setIfInBounds_toArray, List.set_cons_zero, List.set_cons_succ]
              exact key.out _ _ _ (And.intro hHeld (And.intro hbel (And.intro HA10 (And.intro hlo10 (And.intro HA11 (And.intro hlo11 (hne)))))))
      · skip
        go_simp
        refine hK.out _ _ (⟨Blk.alloc _ hHeld.1, Blk.alloc _ hHeld.2.1, Blk.alloc _ hHeld.2.2.1, Blk.alloc _ hHeld.2.2.2.1, Blk.alloc _ hHeld.2.2.2.2.1, Blk.alloc _ hHeld.2.2.2.2.2.1, Blk.alloc _ hHeld.2.2.2.2.2.2⟩) (fun hHeld => ?_)
        clear hK K
        try simp only [Act.put, List.setIfInBounds_toArray, List.set_cons_zero, List.set_cons_succ]
        have HA11 := Blk.new w101 34 #[.int .i64 0, .int .i64 0]
        have hlo11 : V.heap.size ≤ w101.heap.size := hsz
        replace hbel : Below w.heap.size w (w101.alloc (.cells #[.int .i64 0, .int .i64 0] 34)) := Bel.alloc hbel _
        replace hsz : V.heap.size ≤ (w101.alloc (.cells #[.int .i64 0, .int .i64 0] 34)).heap.size := by simp only [World.size_alloc]; omega
        generalize (w101.alloc (.cells #[.int .i64 0, .int .i64 0] 34)) = w127 at hHeld hbel hsz HA11 hlo11 ⊢
        generalize w101.heap.size = a11 at HA11 hlo11 ⊢
        refine wpAnyH_ready (rs := [4, 10]) (by kernel_rfl) (by simp) ?_
        refine AllReadyH.cons rfl (fun K hK => ?_) (AllReadyH.cons rfl (fun K hK => ?_) AllReadyH.nil)
        · skip
          go_simp
          go_at_call 30; refine (toFigure_c vd vt _).mono ?_; rintro e w128 ⟨rfl, hb128⟩
          go_wp2_with fail
          refine hK.out _ _ (⟨Blk.step hb128 hHeld.1, Blk.step hb128 hHeld.2.1, Blk.step hb128 hHeld.2.2.1, Blk.step hb128 hHeld.2.2.2.1, Blk.step hb128 hHeld.2.2.2.2.1, Blk.step hb128 hHeld.2.2.2.2.2.1, Blk.step hb128 hHeld.2.2.2.2.2.2⟩) (fun hHeld => ?_)
          clear hK K
          try simp only [Act.put, List.setIfInBounds_toArray, List.set_cons_zero, List.set_cons_succ]
          replace hbel := Bel.step hb128 hbel
          replace hsz : V.heap.size ≤ w128.heap.size := Nat.le_trans hsz hb128.size
          replace HA11 := Blk.step hb128 HA11
          clear hb128
          refine wpAnyH_ready (rs := [5, 10]) (by kernel_rfl) (by simp) ?_
          refine AllReadyH.cons rfl (fun K hK => ?_) (AllReadyH.cons rfl (fun K hK => ?_) AllReadyH.nil)
          · skip
            go_simp
            go_at_call 40; refine (ReadRelease_I _ _ _ _ _ _ _ hn hm _ hHeld.2.2.2.2.2.2.ints).mono ?_; rintro e w129 ⟨rfl, hb129⟩
            go_wp2_with fail
            refine hK.out _ _ (⟨Blk.step hb129 hHeld.1, Blk.step hb129 hHeld.2.1, Blk.step hb129 hHeld.2.2.1, Blk.step hb129 hHeld.2.2.2.1, Blk.step hb129 hHeld.2.2.2.2.1, Blk.step hb129 hHeld.2.2.2.2.2.1, Blk.step hb129 hHeld.2.2.2.2.2.2⟩) (fun hHeld => ?_)
            clear hK K
            try simp only [Act.put, List.setIfInBounds_toArray, List.set_cons_zero, List.set_cons_succ]
            replace hbel := Bel.step hb129 hbel
            replace hsz : V.heap.size ≤ w129.heap.size := Nat.le_trans hsz hb129.size
            replace HA11 := Blk.step hb129 HA11
            clear hb129
            refine wpAnyH_take (i := 6) (v := (.tuple #[.agg #[.int .i64 (rl0 R ud ut vd vt), .int .i64 (rl1 R ud ut vd vt)], .agg #[.int .i64 (rl2 R ud ut vd vt), .int .i64 (rl3 R ud ut vd vt)], .int .i64 (rlC R ud ut vd vt)])) rfl (by kernel_rfl) (by kernel_rfl) (by kernel_rfl) (fun _ _ _ h => h) (Or.inl ⟨by rfl, fun w _ => by simp [go_sem, execOp]⟩) hHeld ?_
            try simp only [Act.put, List.setIfInBounds_toArray, List.set_cons_zero, List.set_cons_succ]
            refine wpAnyH_take (i := 7) (v := (.agg #[.int .i64 (rl0 R ud ut vd vt), .int .i64 (rl1 R ud ut vd vt)])) rfl (by kernel_rfl) (by kernel_rfl) (by kernel_rfl) (fun _ _ _ h => h) (Or.inl ⟨by rfl, fun w _ => by simp [go_sem, execOp]⟩) hHeld ?_
            try simp only [Act.put, List.setIfInBounds_toArray, List.set_cons_zero, List.set_cons_succ]
            refine wpAnyH_take (i := 8) (v := (.agg #[.int .i64 (rl2 R ud ut vd vt), .int .i64 (rl3 R ud ut vd vt)])) rfl (by kernel_rfl) (by kernel_rfl) (by kernel_rfl) (fun _ _ _ h => h) (Or.inl ⟨by rfl, fun w _ => by simp [go_sem, execOp]⟩) hHeld ?_
            try simp only [Act.put, List.setIfInBounds_toArray, List.set_cons_zero, List.set_cons_succ]
            refine wpAnyH_take (i := 9) (v := (.int .i64 (rlC R ud ut vd vt))) rfl (by kernel_rfl) (by kernel_rfl) (by kernel_rfl) (fun _ _ _ h => h) (Or.inl ⟨by rfl, fun w _ => by simp [go_sem, execOp]⟩) hHeld ?_
            try simp only [Act.put, List.setIfInBounds_toArray, List.set_cons_zero, List.set_cons_succ]
            refine wpAnyH_ready (rs := [10]) (by kernel_rfl) (by simp) ?_
            refine AllReadyH.cons rfl (fun K hK => ?_) AllReadyH.nil
            · skip
              go_simp
              refine hK.out _ _ (⟨Blk.alloc _ hHeld.1, Blk.alloc _ hHeld.2.1, Blk.alloc _ hHeld.2.2.1, Blk.alloc _ hHeld.2.2.2.1, Blk.alloc _ hHeld.2.2.2.2.1, Blk.alloc _ hHeld.2.2.2.2.2.1, Blk.alloc _ hHeld.2.2.2.2.2.2⟩) (fun hHeld => ?_)
              clear hK K
              try simp only [Act.put, List.setIfInBounds_toArray, List.set_cons_zero, List.set_cons_succ]
              have HA10 := Blk.new w129 34 #[.int .i64 0, .int .i64 0]
              have hlt := HA11.lt
              have hne : w129.heap.size ≠ a11 := by omega
              replace HA11 : Blk (w129.alloc (.cells #[.int .i64 0, .int .i64 0] 34)) a11 34 #[.int .i64 0, .int .i64 0] := Blk.alloc _ HA11
              clear hlt
              have hlo10 : V.heap.size ≤ w129.heap.size := hsz
              replace hbel : Below w.heap.size w (w129.alloc (.cells #[.int .i64 0, .int .i64 0] 34)) := Bel.alloc hbel _
              replace hsz : V.heap.size ≤ (w129.alloc (.cells #[.int .i64 0, .int .i64 0] 34)).heap.size := by simp only [World.size_alloc]; omega
              generalize (w129.alloc (.cells #[.int .i64 0, .int .i64 0] 34)) = w130 at hHeld hbel hsz HA10 hlo10 HA11 hne ⊢
              generalize w129.heap.size = a10 at HA10 hlo10 hne ⊢
              exact key.out _ _ _ (And.intro hHeld (And.intro hbel (And.intro HA10 (And.intro hlo10 (And.intro HA11 (And.intro hlo11 (hne)))))))
          · skip
            go_simp
            refine hK.out _ _ (⟨Blk.alloc _ hHeld.1, Blk.alloc _ hHeld.2.1, Blk.alloc _ hHeld.2.2.1, Blk.alloc _ hHeld.2.2.2.1, Blk.alloc _ hHeld.2.2.2.2.1, Blk.alloc _ hHeld.2.2.2.2.2.1, Blk.alloc _ hHeld.2.2.2.2.2.2⟩) (fun hHeld => ?_)
            clear hK K
            try simp only [Act.put, List.setIfInBounds_toArray, List.set_cons_zero, List.set_cons_succ]
            have HA10 := Blk.new w128 34 #[.int .i64 0, .int .i64 0]
            have hlt := HA11.lt
            have hne : w128.heap.size ≠ a11 := by omega
            replace HA11 : Blk (w128.alloc (.cells #[.int .i64 0, .int .i64 0] 34)) a11 34 #[.int .i64 0, .int .i64 0] := Blk.alloc _ HA11
            clear hlt
            have hlo10 : V.heap.size ≤ w128.heap.size := hsz
            replace hbel : Below w.heap.size w (w128.alloc (.cells #[.int .i64 0, .int .i64 0] 34)) := Bel.alloc hbel _
            replace hsz : V.heap.size ≤ (w128.alloc (.cells #[.int .i64 0, .int .i64 0] 34)).heap.size := by simp only [World.size_alloc]; omega
            generalize (w128.alloc (.cells #[.int .i64 0, .int .i64 0] 34)) = w131 at hHeld hbel hsz HA10 hlo10 HA11 hne ⊢
            generalize w128.heap.size = a10 at HA10 hlo10 hne ⊢
            refine wpAnyH_ready (rs := [5]) (by kernel_rfl) (by simp) ?_
            refine AllReadyH.cons rfl (fun K hK => ?_) AllReadyH.nil
            · skip
              go_simp
              go_at_call 40; refine (ReadRelease_I _ _ _ _ _ _ _ hn hm _ hHeld.2.2.2.2.2.2.ints).mono ?_; rintro e w132 ⟨rfl, hb132⟩
              go_wp2_with fail
              refine hK.out _ _ (⟨Blk.step hb132 hHeld.1, Blk.step hb132 hHeld.2.1, Blk.step hb132 hHeld.2.2.1, Blk.step hb132 hHeld.2.2.2.1, Blk.step hb132 hHeld.2.2.2.2.1, Blk.step hb132 hHeld.2.2.2.2.2.1, Blk.step hb132 hHeld.2.2.2.2.2.2⟩) (fun hHeld => ?_)
              clear hK K
              try simp only [Act.put, List.setIfInBounds_toArray, List.set_cons_zero, List.set_cons_succ]
              replace hbel := Bel.step hb132 hbel
              replace hsz : V.heap.size ≤ w132.heap.size := Nat.le_trans hsz hb132.size
              replace HA10 := Blk.step hb132 HA10
              replace HA11 := Blk.step hb132 HA11
              clear hb132
              refine wpAnyH_take (i := 6) (v := (.tuple #[.agg #[.int .i64 (rl0 R ud ut vd vt), .int .i64 (rl1 R ud ut vd vt)], .agg #[.int .i64 (rl2 R ud ut vd vt), .int .i64 (rl3 R ud ut vd vt)], .int .i64 (rlC R ud ut vd vt)])) rfl (by kernel_rfl) (by kernel_rfl) (by kernel_rfl) (fun _ _ _ h => h) (Or.inl ⟨by rfl, fun w _ => by simp [go_sem, execOp]⟩) hHeld ?_
              try simp only [Act.put, List.setIfInBounds_toArray, List.set_cons_zero, List.set_cons_succ]
              refine wpAnyH_take (i := 7) (v := (.agg #[.int .i64 (rl0 R ud ut vd vt), .int .i64 (rl1 R ud ut vd vt)])) rfl (by kernel_rfl) (by kernel_rfl) (by kernel_rfl) (fun _ _ _ h => h) (Or.inl ⟨by rfl, fun w _ => by simp [go_sem, execOp]⟩) hHeld ?_
              try simp only [Act.put, List.setIfInBounds_toArray, List.set_cons_zero, List.set_cons_succ]
              refine wpAnyH_take (i := 8) (v := (.agg #[.int .i64 (rl2 R ud ut vd vt), .int .i64 (rl3 R ud ut vd vt)])) rfl (by kernel_rfl) (by kernel_rfl) (by kernel_rfl) (fun _ _ _ h => h) (Or.inl ⟨by rfl, fun w _ => by simp [go_sem, execOp]⟩) hHeld ?_
              try simp only [Act.put, List.setIfInBounds_toArray, List.set_cons_zero, List.set_cons_succ]
              refine wpAnyH_take (i := 9) (v := (.int .i64 (rlC R ud ut vd vt))) rfl (by kernel_rfl) (by kernel_rfl) (by kernel_rfl) (fun _ _ _ h => h) (Or.inl ⟨by rfl, fun w _ => by simp [go_sem, execOp]⟩) hHeld ?_
              try simp only [Act.put, List.setIfInBounds_toArray, List.set_cons_zero, List.set_cons_succ]
              exact key.out _ _ _ (And.intro hHeld (And.intro hbel (And.intro HA10 (And.intro hlo10 (And.intro HA11 (And.intro hlo11 (hne)))))))
        · skip
          go_simp
          refine hK.out _ _ (⟨Blk.alloc _ hHeld.1, Blk.alloc _ hHeld.2.1, Blk.alloc _ hHeld.2.2.1, Blk.alloc _ hHeld.2.2.2.1, Blk.alloc _ hHeld.2.2.2.2.1, Blk.alloc _ hHeld.2.2.2.2.2.1, Blk.alloc _ hHeld.2.2.2.2.2.2⟩) (fun hHeld => ?_)
          clear hK K
          try simp only [Act.put, List.setIfInBounds_toArray, List.set_cons_zero, List.set_cons_succ]
          have HA10 := Blk.new w127 34 #[.int .i64 0, .int .i64 0]
          have hlt := HA11.lt
          have hne : w127.heap.size ≠ a11 := by omega
          replace HA11 : Blk (w127.alloc (.cells #[.int .i64 0, .int .i64 0] 34)) a11 34 #[.int .i64 0, .int .i64 0] := Blk.alloc _ HA11
          clear hlt
          have hlo10 : V.heap.size ≤ w127.heap.size := hsz
          replace hbel : Below w.heap.size w (w127.alloc (.cells #[.int .i64 0, .int .i64 0] 34)) := Bel.alloc hbel _
          replace hsz : V.heap.size ≤ (w127.alloc (.cells #[.int .i64 0, .int .i64 0] 34)).heap.size := by simp only [World.size_alloc]; omega
          generalize (w127.alloc (.cells #[.int .i64 0, .int .i64 0] 34)) = w133 at hHeld hbel hsz HA10 hlo10 HA11 hne ⊢
          generalize w127.heap.size = a10 at HA10 hlo10 hne ⊢
          refine wpAnyH_ready (rs := [4]) (by kernel_rfl) (by simp) ?_
          refine AllReadyH.cons rfl (fun K hK => ?_) AllReadyH.nil
          · skip
            go_simp
            go_at_call 30; refine (toFigure_c vd vt _).mono ?_; rintro e w134 ⟨rfl, hb134⟩
            go_wp2_with fail
            refine hK.out _ _ (⟨Blk.step hb134 hHeld.1, Blk.step hb134 hHeld.2.1, Blk.step hb134 hHeld.2.2.1, Blk.step hb134 hHeld.2.2.2.1, Blk.step hb134 hHeld.2.2.2.2.1, Blk.step hb134 hHeld.2.2.2.2.2.1, Blk.step hb134 hHeld.2.2.2.2.2.2⟩) (fun hHeld => ?_)
            clear hK K
            try simp only [Act.put, List.setIfInBounds_toArray, List.set_cons_zero, List.set_cons_succ]
            replace hbel := Bel.step hb134 hbel
            replace hsz : V.heap.size ≤ w134.heap.size := Nat.le_trans hsz hb134.size
            replace HA10 := Blk.step hb134 HA10
            replace HA11 := Blk.step hb134 HA11
            clear hb134
            refine wpAnyH_ready (rs := [5]) (by kernel_rfl) (by simp) ?_
            refine AllReadyH.cons rfl (fun K hK => ?_) AllReadyH.nil
            · skip
              go_simp
              go_at_call 40; refine (ReadRelease_I _ _ _ _ _ _ _ hn hm _ hHeld.2.2.2.2.2.2.ints).mono ?_; rintro e w135 ⟨rfl, hb135⟩
              go_wp2_with fail
              refine hK.out _ _ (⟨Blk.step hb135 hHeld.1, Blk.step hb135 hHeld.2.1, Blk.step hb135 hHeld.2.2.1, Blk.step hb135 hHeld.2.2.2.1, Blk.step hb135 hHeld.2.2.2.2.1, Blk.step hb135 hHeld.2.2.2.2.2.1, Blk.step hb135 hHeld.2.2.2.2.2.2⟩) (fun hHeld => ?_)
              clear hK K
              try simp only [Act.put, List.setIfInBounds_toArray, List.set_cons_zero, List.set_cons_succ]
              replace hbel := Bel.step hb135 hbel
              replace hsz : V.heap.size ≤ w135.heap.size := Nat.le_trans hsz hb135.size
              replace HA10 := Blk.step hb135 HA10
              replace HA11 := Blk.step hb135 HA11
              clear hb135
              refine wpAnyH_take (i := 6) (v := (.tuple #[.agg #[.int .i64 (rl0 R ud ut vd vt), .int .i64 (rl1 R ud ut vd vt)], .agg #[.int .i64 (rl2 R ud ut vd vt), .int .i64 (rl3 R ud ut vd vt)], .int .i64 (rlC R ud ut vd vt)])) rfl (by kernel_rfl) (by kernel_rfl) (by kernel_rfl) (fun _ _ _ h => h) (Or.inl ⟨by rfl, fun w _ => by simp [go_sem, execOp]⟩) hHeld ?_
              try simp only [Act.put, List.setIfInBounds_toArray, List.set_cons_zero, List.set_cons_succ]
              refine wpAnyH_take (i := 7) (v := (.agg #[.int .i64 (rl0 R ud ut vd vt), .int .i64 (rl1 R ud ut vd vt)])) rfl (by kernel_rfl) (by kernel_rfl) (by kernel_rfl) (fun _ _ _ h => h) (Or.inl ⟨by rfl, fun w _ => by simp [go_sem, execOp]⟩) hHeld ?_
              try simp only [Act.put, List.setIfInBounds_toArray, List.set_cons_zero, List.set_cons_succ]
              refine wpAnyH_take (i := 8) (v := (.agg #[.int .i64 (rl2 R ud ut vd vt), .int .i64 (rl3 R ud ut vd vt)])) rfl (by kernel_rfl) (by kernel_rfl) (by kernel_rfl) (fun _ _ _ h => h) (Or.inl ⟨by rfl, fun w _ => by simp [go_sem, execOp]⟩) hHeld ?_
              try simp only [Act.put, List.setIfInBounds_toArray, List.set_cons_zero, List.set_cons_succ]
              refine wpAnyH_take (i := 9) (v := (.int .i64 (rlC R ud ut vd vt))) rfl (by kernel_rfl) (by kernel_rfl) (by kernel_rfl) (fun _ _ _ h => h) (Or.inl ⟨by rfl, fun w _ => by simp [go_sem, execOp]⟩) hHeld ?_
              try simp only [Act.put, List.setIfInBounds_toArray, List.set_cons_zero, List.set_cons_succ]
              exact key.out _ _ _ (And.intro hHeld (And.intro hbel (And.intro HA10 (And.intro hlo10 (And.intro HA11 (And.intro hlo11 (hne)))))))
    · skip
      go_simp
      refine hK.out _ _ (⟨Blk.alloc _ hHeld.1, Blk.alloc _ hHeld.2.1, Blk.alloc _ hHeld.2.2.1, Blk.alloc _ hHeld.2.2.2.1, Blk.alloc _ hHeld.2.2.2.2.1, Blk.alloc _ hHeld.2.2.2.2.2.1, Blk.alloc _ hHeld.2.2.2.2.2.2⟩) (fun hHeld => ?_)
      clear hK K
      try simp only [Act.put, List.setIfInBounds_toArray, List.set_cons_zero, List.set_cons_succ]
      have HA10 := Blk.new wA 34 #[.int .i64 0, .int .i64 0]
      have hlo10 : V.heap.size ≤ wA.heap.size := hsz
      replace hbel : Below w.heap.size w (wA.alloc (.cells #[.int .i64 0, .int .i64 0] 34)) := Bel.alloc hbel _
      replace hsz : V.heap.size ≤ (wA.alloc (.cells #[.int .i64 0, .int .i64 0] 34)).heap.size := by simp only [World.size_alloc]; omega
      generalize (wA.alloc (.cells #[.int .i64 0, .int .i64 0] 34)) = w136 at hHeld hbel hsz HA10 hlo10 ⊢
      generalize wA.heap.size = a10 at HA10 hlo10 ⊢
      refine wpAnyH_ready (rs := [2, 11]) (by kernel_rfl) (by simp) ?_
      refine AllReadyH.cons rfl (fun K hK => ?_) (AllReadyH.cons rfl (fun K hK => ?_) AllReadyH.nil)
      · skip
        go_simp
        go_at_call 30; refine (toFigure_c ud ut _).mono ?_; rintro e w137 ⟨rfl, hb137⟩
        go_wp2_with fail
        refine hK.out _ _ (⟨Blk.step hb137 hHeld.1, Blk.step hb137 hHeld.2.1, Blk.step hb137 hHeld.2.2.1, Blk.step hb137 hHeld.2.2.2.1, Blk.step hb137 hHeld.2.2.2.2.1, Blk.step hb137 hHeld.2.2.2.2.2.1, Blk.step hb137 hHeld.2.2.2.2.2.2⟩) (fun hHeld => ?_)
        clear hK K
        try simp only [Act.put, List.setIfInBounds_toArray, List.set_cons_zero, List.set_cons_succ]
        replace hbel := Bel.step hb137 hbel
        replace hsz : V.heap.size ≤ w137.heap.size := Nat.le_trans hsz hb137.size
        replace HA10 := Blk.step hb137 HA10
        clear hb137
        refine wpAnyH_ready (rs := [4, 11]) (by kernel_rfl) (by simp) ?_
        refine AllReadyH.cons rfl (fun K hK => ?_) (AllReadyH.cons rfl (fun K hK => ?_) AllReadyH.nil)
        · skip
          go_simp
          go_at_call 30; refine (toFigure_c vd vt _).mono ?_; rintro e w138 ⟨rfl, hb138⟩
          go_wp2_with fail
          refine hK.out _ _ (⟨Blk.step hb138 hHeld.1, Blk.step hb138 hHeld.2.1, Blk.step hb138 hHeld.2.2.1, Blk.step hb138 hHeld.2.2.2.1, Blk.step hb138 hHeld.2.2.2.2.1, Blk.step hb138 hHeld.2.2.2.2.2.1, Blk.step hb138 hHeld.2.2.2.2.2.2⟩) (fun hHeld => ?_)
          clear hK K
          try simp only [Act.put, List.setIfInBounds_toArray, List.set_cons_zero, List.set_cons_succ]
          replace hbel := Bel.step hb138 hbel
          replace hsz : V.heap.size ≤ w138.heap.size := Nat.le_trans hsz hb138.size
          replace HA10 := Blk.step hb138 HA10
          clear hb138
          refine wpAnyH_ready (rs := [5, 11]) (by kernel_rfl) (by simp) ?_
          refine AllReadyH.cons rfl (fun K hK => ?_) (AllReadyH.cons rfl (fun K hK => ?_) AllReadyH.nil)
          · skip
            go_simp
            go_at_call 40; refine (ReadRelease_I _ _ _ _ _ _ _ hn hm _ hHeld.2.2.2.2.2.2.ints).mono ?_; rintro e w139 ⟨rfl, hb139⟩
            go_wp2_with fail
            refine hK.out _ _ (⟨Blk.step hb139 hHeld.1, Blk.step hb139 hHeld.2.1, Blk.step hb139 hHeld.2.2.1, Blk.step hb139 hHeld.2.2.2.1, Blk.step hb139 hHeld.2.2.2.2.1, Blk.step hb139 hHeld.2.2.2.2.2.1, Blk.step hb139 hHeld.2.2.2.2.2.2⟩) (fun hHeld => ?_)
            clear hK K
            try simp only [Act.put, List.setIfInBounds_toArray, List.set_cons_zero, List.set_cons_succ]
            replace hbel := Bel.step hb139 hbel
            replace hsz : V.heap.size ≤ w139.heap.size := Nat.le_trans hsz hb139.size
            replace HA10 := Blk.step hb139 HA10
            clear hb139
            refine wpAnyH_take (i := 6) (v := (.tuple #[.agg #[.int .i64 (rl0 R ud ut vd vt), .int .i64 (rl1 R ud ut vd vt)], .agg #[.int .i64 (rl2 R ud ut vd vt), .int .i64 (rl3 R ud ut vd vt)], .int .i64 (rlC R ud ut vd vt)])) rfl (by kernel_rfl) (by kernel_rfl) (by kernel_rfl) (fun _ _ _ h => h) (Or.inl ⟨by rfl, fun w _ => by simp [go_sem, execOp]⟩) hHeld ?_
            try simp only [Act.put, List.setIfInBounds_toArray, List.set_cons_zero, List.set_cons_succ]
            refine wpAnyH_take (i := 7) (v := (.agg #[.int .i64 (rl0 R ud ut vd vt), .int .i64 (rl1 R ud ut vd vt)])) rfl (by kernel_rfl) (by kernel_rfl) (by kernel_rfl) (fun _ _ _ h => h) (Or.inl ⟨by rfl, fun w _ => by simp [go_sem, execOp]⟩) hHeld ?_
            try simp only [Act.put, List.setIfInBounds_toArray, List.set_cons_zero, List.set_cons_succ]
            refine wpAnyH_take (i := 8) (v := (.agg #[.int .i64 (rl2 R ud ut vd vt), .int .i64 (rl3 R ud ut vd vt)])) rfl (by kernel_rfl) (by kernel_rfl) (by kernel_rfl) (fun _ _ _ h => h) (Or.inl ⟨by rfl, fun w _ => by simp [go_sem, execOp]⟩) hHeld ?_
            try simp only [Act.put, List.setIfInBounds_toArray, List.set_cons_zero, List.set_cons_succ]
            refine wpAnyH_take (i := 9) (v := (.int .i64 (rlC R ud ut vd vt))) rfl (by kernel_rfl) (by kernel_rfl) (by kernel_rfl) (fun _ _ _ h => h) (Or.inl ⟨by rfl, fun w _ => by simp [go_sem, execOp]⟩) hHeld ?_
            try simp only [Act.put, List.setIfInBounds_toArray, List.set_cons_zero, List.set_cons_succ]
            refine wpAnyH_ready (rs := [11]) (by kernel_rfl) (by simp) ?_
            refine AllReadyH.cons rfl (fun K hK => ?_) AllReadyH.nil
            · skip
              go_simp
              refine hK.out _ _ (⟨Blk.alloc _ hHeld.1, Blk.alloc _ hHeld.2.1, Blk.alloc _ hHeld.2.2.1, Blk.alloc _ hHeld.2.2.2.1, Blk.alloc _ hHeld.2.2.2.2.1, Blk.alloc _ hHeld.2.2.2.2.2.1, Blk.alloc _ hHeld.2.2.2.2.2.2⟩) (fun hHeld => ?_)
              clear hK K
              try simp only [Act.put, List.setIfInBounds_toArray, List.set_cons_zero, List.set_cons_succ]
              have HA11 := Blk.new w139 34 #[.int .i64 0, .int .i64 0]
              have hlt := HA10.lt
              have hne : a10 ≠ w139.heap.size := by omega
              replace HA10 : Blk (w139.alloc (.cells #[.int .i64 0, .int .i64 0] 34)) a10 34 #[.int .i64 0, .int .i64 0] := Blk.alloc _ HA10
              clear hlt
              have hlo11 : V.heap.size ≤ w139.heap.size := hsz
              replace hbel : Below w.heap.size w (w139.alloc (.cells #[.int .i64 0, .int .i64 0] 34)) := Bel.alloc hbel _
              replace hsz : V.heap.size ≤ (w139.alloc (.cells #[.int .i64 0, .int .i64 0] 34)).heap.size := by simp only [World.size_alloc]; omega
              generalize (w139.alloc (.cells #[.int .i64 0, .int .i64 0] 34)) = w140 at hHeld hbel hsz HA11 hlo11 HA10 hne ⊢
              generalize w139.heap.size = a11 at HA11 hlo11 hne ⊢
              exact key.out _ _ _ (And.intro hHeld (And.intro hbel (And.intro HA10 (And.intro hlo10 (And.intro HA11 (And.intro hlo11 (hne)))))))
          · skip
            go_simp
            refine hK.out _ _ (⟨Blk.alloc _ hHeld.1, Blk.alloc _ hHeld.2.1, Blk.alloc _ hHeld.2.2.1, Blk.alloc _ hHeld.2.2.2.1, Blk.alloc _ hHeld.2.2.2.2.1, Blk.alloc _ hHeld.2.2.2.2.2.1, Blk.alloc _ hHeld.2.2.2.2.2.2⟩) (fun hHeld => ?_)
            clear hK K
            try simp only [Act.put, List.setIfInBounds_toArray, List.set_cons_zero, List.set_cons_succ]
            have HA11 := Blk.new w138 34 #[.int .i64 0, .int .i64 0]
            have hlt := HA10.lt
            have hne : a10 ≠ w138.heap.size := by omega
            replace HA10 : Blk (w138.alloc (.cells #[.int .i64 0, .int .i64 0] 34)) a10 34 #[.int .i64 0, .int .i64 0] := Blk.alloc _ HA10
            clear hlt
            have hlo11 : V.heap.size ≤ w138.heap.size := hsz
            replace hbel : Below w.heap.size w (w138.alloc (.cells #[.int .i64 0, .int .i64 0] 34)) := Bel.alloc hbel _
            replace hsz : V.heap.size ≤ (w138.alloc (.cells #[.int .i64 0, .int .i64 0] 34)).heap.size := by simp only [World.size_alloc]; omega
            generalize (w138.alloc (.cells #[.int .i64 0, .int .i64 0] 34)) = w141 at hHeld hbel hsz HA11 hlo11 HA10 hne ⊢
            generalize w138.heap.size = a11 at HA11 hlo11 hne ⊢
            refine wpAnyH_ready (rs := [5]) (by kernel_rfl) (by simp) ?_
            refine AllReadyH.cons rfl (fun K hK => ?_) AllReadyH.nil
            · skip
              go_simp
              go_at_call 40; refine (ReadRelease_I _ _ _ _ _ _ _ hn hm _ hHeld.2.2.2.2.2.2.ints).mono ?_; rintro e w142 ⟨rfl, hb142⟩
              go_wp2_with fail
              refine hK.out _ _ (⟨Blk.step hb142 hHeld.1, Blk.step hb142 hHeld.2.1, Blk.step hb142 hHeld.2.2.1, Blk.step hb142 hHeld.2.2.2.1, Blk.step hb142 hHeld.2.2.2.2.1, Blk.step hb142 hHeld.2.2.2.2.2.1, Blk.step hb142 hHeld.2.2.2.2.2.2⟩) (fun hHeld => ?_)
              clear hK K
              try simp only [Act.put, List.setIfInBounds_toArray, List.set_cons_zero, List.set_cons_succ]
              replace hbel := Bel.step hb142 hbel
              replace hsz : V.heap.size ≤ w142.heap.size := Nat.le_trans hsz hb142.size
              replace HA10 := Blk.step hb142 HA10
              replace HA11 := Blk.step hb142 HA11
              clear hb142
              refine wpAnyH_take (i := 6) (v := (.tuple #[.agg #[.int .i64 (rl0 R ud ut vd vt), .int .i64 (rl1 R ud ut vd vt)], .agg #[.int .i64 (rl2 R ud ut vd vt), .int .i64 (rl3 R ud ut vd vt)], .int .i64 (rlC R ud ut vd vt)])) rfl (by kernel_rfl) (by kernel_rfl) (by kernel_rfl) (fun _ _ _ h => h) (Or.inl ⟨by rfl, fun w _ => by simp [go_sem, execOp]⟩) hHeld ?_
              try simp only [Act.put, List.setIfInBounds_toArray, List.set_cons_zero, List.set_cons_succ]
              refine wpAnyH_take (i := 7) (v := (.agg #[.int .i64 (rl0 R ud ut vd vt), .int .i64 (rl1 R ud ut vd vt)])) rfl (by kernel_rfl) (by kernel_rfl) (by kernel_rfl) (fun _ _ _ h => h) (Or.inl ⟨by rfl, fun w _ => by simp [go_sem, execOp]⟩) hHeld ?_
              try simp only [Act.put, List.setIfInBounds_toArray, List.set_cons_zero, List.set_cons_succ]
              refine wpAnyH_take (i := 8) (v := (.agg #[.int .i64 (rl2 R ud ut vd vt), .int .i64 (rl3 R ud ut vd vt)])) rfl (by kernel_rfl) (by kernel_rfl) (by kernel_rfl) (fun _ _ _ h => h) (Or.inl ⟨by rfl, fun w _ => by simp [go_sem, execOp]⟩) hHeld ?_
              try simp only [Act.put, List.setIfInBounds_toArray, List.set_cons_zero, List.set_cons_succ]
              refine wpAnyH_take (i := 9) (v := (.int .i64 (rlC R ud ut vd vt))) rfl (by kernel_rfl) (by kernel_rfl) (by kernel_rfl) (fun _ _ _ h => h) (Or.inl ⟨by rfl, fun w _ => by simp [go_sem, execOp]⟩) hHeld ?_
              try simp only [Act.put, List.setIfInBounds_toArray, List.set_cons_zero, List.set_cons_succ]
              exact key.out _ _ _ (And.intro hHeld (And.intro hbel (And.intro HA10 (And.intro hlo10 (And.intro HA11 (And.intro hlo11 (hne)))))))
        · skip
          go_simp
          refine hK.out _ _ (⟨Blk.alloc _ hHeld.1, Blk.alloc _ hHeld.2.1, Blk.alloc _ hHeld.2.2.1, Blk.alloc _ hHeld.2.2.2.1, Blk.alloc _ hHeld.2.2.2.2.1, Blk.alloc _ hHeld.2.2.2.2.2.1, Blk.alloc _ hHeld.2.2.2.2.2.2⟩) (fun hHeld => ?_)
          clear hK K
          try simp only [Act.put, List.setIfInBounds_toArray, List.set_cons_zero, List.set_cons_succ]
          have HA11 := Blk.new w137 34 #[.int .i64 0, .int .i64 0]
          have hlt := HA10.lt
          have hne : a10 ≠ w137.heap.size := by omega
          replace HA10 : Blk (w137.alloc (.cells #[.int .i64 0, .int .i64 0] 34)) a10 34 #[.int .i64 0, .int .i64 0] := Blk.alloc _ HA10
          clear hlt
          have hlo11 : V.heap.size ≤ w137.heap.size := hsz
          replace hbel : Below w.heap.size w (w137.alloc (.cells #[.int .i64 0, .int .i64 0] 34)) := Bel.alloc hbel _
          replace hsz : V.heap.size ≤ (w137.alloc (.cells #[.int .i64 0, .int .i64 0] 34)).heap.size := by simp only [World.size_alloc]; omega
          generalize (w137.alloc (.cells #[.int .i64 0, .int .i64 0] 34)) = w143 at hHeld hbel hsz HA11 hlo11 HA10 hne ⊢
          generalize w137.heap.size = a11 at HA11 hlo11 hne ⊢
          refine wpAnyH_ready (rs := [4]) (by kernel_rfl) (by simp) ?_
          refine AllReadyH.cons rfl (fun K hK => ?_) AllReadyH.nil
          · skip
            go_simp
            go_at_call 30; refine (toFigure_c vd vt _).mono ?_; rintro e w144 ⟨rfl, hb144⟩
            go_wp2_with fail
            refine hK.out _ _ (⟨Blk.step hb144 hHeld.1, Blk.step hb144 hHeld.2.1, Blk.step hb144 hHeld.2.2.1, Blk.step hb144 hHeld.2.2.2.1, Blk.step hb144 hHeld.2.2.2.2.1, Blk.step hb144 hHeld.2.2.2.2.2.1, Blk.step hb144 hHeld.2.2.2.2.2.2⟩) (fun hHeld => ?_)
            clear hK K
            try simp only [Act.put, List.setIfInBounds_toArray, List.set_cons_zero, List.set_cons_succ]
            replace hbel := Bel.step hb144 hbel
            replace hsz : V.heap.size ≤ w144.heap.size := Nat.le_trans hsz hb144.size
            replace HA10 := Blk.step hb144 HA10
            replace HA11 := Blk.step hb144 HA11
            clear hb144
            refine wpAnyH_ready (rs := [5]) (by kernel_rfl) (by simp) ?_
            refine AllReadyH.cons rfl (fun K hK => ?_) AllReadyH.nil
            · skip
              go_simp
              go_at_call 40; refine (ReadRelease_I _ _ _ _ _ _ _ hn hm _ hHeld.2.2.2.2.2.2.ints).mono ?_; rintro e w145 ⟨rfl, hb145⟩
              go_wp2_with fail
              refine hK.out _ _ (⟨Blk.step hb145 hHeld.1, Blk.step hb145 hHeld.2.1, Blk.step hb145 hHeld.2.2.1, Blk.step hb145 hHeld.2.2.2.1, Blk.step hb145 hHeld.2.2.2.2.1, Blk.step hb145 hHeld.2.2.2.2.2.1, Blk.step hb145 hHeld.2.2.2.2.2.2⟩) (fun hHeld => ?_)
              clear hK K
              try simp only [Act.put, List.setIfInBounds_toArray, List.set_cons_zero, List.set_cons_succ]
              replace hbel := Bel.step hb145 hbel
              replace hsz : V.heap.size ≤ w145.heap.size := Nat.le_trans hsz hb145.size
              replace HA10 := Blk.step hb145 HA10
              replace HA11 := Blk.step hb145 HA11
              clear hb145
              refine wpAnyH_take (i := 6) (v := (.tuple #[.agg #[.int .i64 (rl0 R ud ut vd vt), .int .i64 (rl1 R ud ut vd vt)], .agg #[.int .i64 (rl2 R ud ut vd vt), .int .i64 (rl3 R ud ut vd vt)], .int .i64 (rlC R ud ut vd vt)])) rfl (by kernel_rfl) (by kernel_rfl) (by kernel_rfl) (fun _ _ _ h => h) (Or.inl ⟨by rfl, fun w _ => by simp [go_sem, execOp]⟩) hHeld ?_
              try simp only [Act.put, List.setIfInBounds_toArray, List.set_cons_zero, List.set_cons_succ]
              refine wpAnyH_take (i := 7) (v := (.agg #[.int .i64 (rl0 R ud ut vd vt), .int .i64 (rl1 R ud ut vd vt)])) rfl (by kernel_rfl) (by kernel_rfl) (by kernel_rfl) (fun _ _ _ h => h) (Or.inl ⟨by rfl, fun w _ => by simp [go_sem, execOp]⟩) hHeld ?_
              try simp only [Act.put, List.setIfInBounds_toArray, List.set_cons_zero, List.set_cons_succ]
              refine wpAnyH_take (i := 8) (v := (.agg #[.int .i64 (rl2 R ud ut vd vt), .int .i64 (rl3 R ud ut vd vt)])) rfl (by kernel_rfl) (by kernel_rfl) (by kernel_rfl) (fun _ _ _ h => h) (Or.inl ⟨by rfl, fun w _ => by simp [go_sem, execOp]⟩) hHeld ?_
              try simp only [Act.put, List.setIfInBounds_toArray, List.set_cons_zero, List.set_cons_succ]
              refine wpAnyH_take (i := 9) (v := (.int .i64 (rlC R ud ut vd vt))) rfl (by kernel_rfl) (by kernel_rfl) (by kernel_rfl) (fun _ _ _ h => h) (Or.inl ⟨by rfl, fun w _ => by simp [go_sem, execOp]⟩) hHeld ?_
              try simp only [Act.put, List.setIfInBounds_toArray, List.set_cons_zero, List.set_cons_succ]
              exact key.out _ _ _ (And.intro hHeld (And.intro hbel (And.intro HA10 (And.intro hlo10 (And.intro HA11 (And.intro hlo11 (hne)))))))
      · skip
        go_simp
        refine hK.out _ _ (⟨Blk.alloc _ hHeld.1, Blk.alloc _ hHeld.2.1, Blk.alloc _ hHeld.2.2.1, Blk.alloc _ hHeld.2.2.2.1, Blk.alloc _ hHeld.2.2.2.2.1, Blk.alloc _ hHeld.2.2.2.2.2.1, Blk.alloc _ hHeld.2.2.2.2.2.2⟩) (fun hHeld => ?_)
        clear hK K
        try simp only [Act.put, List.setIfInBounds_toArray, List.set_cons_zero, List.set_cons_succ]
        have HA11 := Blk.new w136 34 #[.int .i64 0, .int .i64 0]
        have hlt := HA10.lt
        have hne : a10 ≠ w136.heap.size := by omega
        replace HA10 : Blk (w136.alloc (.cells #[.int .i64 0, .int .i64 0] 34)) a10 34 #[.int .i64 0, .int .i64 0] := Blk.alloc _ HA10
        clear hlt
        have hlo11 : V.heap.size ≤ w136.heap.size := hsz
        replace hbel : Below w.heap.size w (w136.alloc (.cells #[.int .i64 0, .int .i64 0] 34)) := Bel.alloc hbel _
        replace hsz : V.heap.size ≤ (w136.alloc (.cells #[.int .i64 0, .int .i64 0] 34)).heap.size := by simp only [World.size_alloc]; omega
        generalize (w136.alloc (.cells #[.int .i64 0, .int .i64 0] 34)) = w146 at hHeld hbel hsz HA11 hlo11 HA10 hne ⊢
        generalize w136.heap.size = a11 at HA11 hlo11 hne ⊢
        refine wpAnyH_ready (rs := [2]) (by kernel_rfl) (by simp) ?_
        refine AllReadyH.cons rfl (fun K hK => ?_) AllReadyH.nil
        · skip
          go_simp
          go_at_call 30; refine (toFigure_c ud ut _).mono ?_; rintro e w147 ⟨rfl, hb147⟩
          go_wp2_with fail
          refine hK.out _ _ (⟨Blk.step hb147 hHeld.1, Blk.step hb147 hHeld.2.1, Blk.step hb147 hHeld.2.2.1, Blk.step hb147 hHeld.2.2.2.1, Blk.step hb147 hHeld.2.2.2.2.1, Blk.step hb147 hHeld.2.2.2.2.2.1, Blk.step hb147 hHeld.2.2.2.2.2.2⟩) (fun hHeld => ?_)
          clear hK K
          try simp only [Act.put, List.setIfInBounds_toArray, List.set_cons_zero, List.set_cons_succ]
          replace hbel := Bel.step hb147 hbel
          replace hsz : V.heap.size ≤ w147.heap.size := Nat.le_trans hsz hb147.size
          replace HA10 := Blk.step hb147 HA10
          replace HA11 := Blk.step hb147 HA11
          clear hb147
          refine wpAnyH_ready (rs := [4]) (by kernel_rfl) (by simp) ?_
          refine AllReadyH.cons rfl (fun K hK => ?_) AllReadyH.nil
          · skip
            go_simp
            go_at_call 30; refine (toFigure_c vd vt _).mono ?_; rintro e w148 ⟨rfl, hb148⟩
            go_wp2_with fail
            refine hK.out _ _ (⟨Blk.step hb148 hHeld.1, Blk.step hb148 hHeld.2.1, Blk.step hb148 hHeld.2.2.1, Blk.step hb148 hHeld.2.2.2.1, Blk.step hb148 hHeld.2.2.2.2.1, Blk.step hb148 hHeld.2.2.2.2.2.1, Blk.step hb148 hHeld.2.2.2.2.2.2⟩) (fun hHeld => ?_)
            clear hK K
            try simp only [Act.put, List.setIfInBounds_toArray, List.set_cons_zero, List.set_cons_succ]
            replace hbel := Bel.step hb148 hbel
            replace hsz : V.heap.size ≤ w148.heap.size := Nat.le_trans hsz hb148.size
            replace HA10 := Blk.step hb148 HA10
            replace HA11 := Blk.step hb148 HA11
            clear hb148
            refine wpAnyH_ready (rs := [5]) (by kernel_rfl) (by simp) ?_
            refine AllReadyH.cons rfl (fun K hK => ?_) AllReadyH.nil
            · skip
              go_simp
              go_at_call 40; refine (ReadRelease_I _ _ _ _ _ _ _ hn hm _ hHeld.2.2.2.2.2.2.ints).mono ?_; rintro e w149 ⟨rfl, hb149⟩
              go_wp2_with fail
              refine hK.out _ _ (⟨Blk.step hb149 hHeld.1, Blk.step hb149 hHeld.2.1, Blk.step hb149 hHeld.2.2.1, Blk.step hb149 hHeld.2.2.2.1, Blk.step hb149 hHeld.2.2.2.2.1, Blk.step hb149 hHeld.2.2.2.2.2.1, Blk.step hb149 hHeld.2.2.2.2.2.2⟩) (fun hHeld => ?_)
              clear hK K
              try simp only [Act.put, List.setIfInBounds_toArray, List.set_cons_zero, List.set_cons_succ]
              replace hbel := Bel.step hb149 hbel
              replace hsz : V.heap.size ≤ w149.heap.size := Nat.le_trans hsz hb149.size
              replace HA10 := Blk.step hb149 HA10
              replace HA11 := Blk.step hb149 HA11
              clear hb149
              refine wpAnyH_take (i := 6) (v := (.tuple #[.agg #[.int .i64 (rl0 R ud ut vd vt), .int .i64 (rl1 R ud ut vd vt)], .agg #[.int .i64 (rl2 R ud ut vd vt), .int .i64 (rl3 R ud ut vd vt)], .int .i64 (rlC R ud ut vd vt)])) rfl (by kernel_rfl) (by kernel_rfl) (by kernel_rfl) (fun _ _ _ h => h) (Or.inl ⟨by rfl, fun w _ => by simp [go_sem, execOp]⟩) hHeld ?_
              try simp only [Act.put, List.setIfInBounds_toArray, List.set_cons_zero, List.set_cons_succ]
              refine wpAnyH_take (i := 7) (v := (.agg #[.int .i64 (rl0 R ud ut vd vt), .int .i64 (rl1 R ud ut vd vt)])) rfl (by kernel_rfl) (by kernel_rfl) (by kernel_rfl) (fun _ _ _ h => h) (Or.inl ⟨by rfl, fun w _ => by simp [go_sem, execOp]⟩) hHeld ?_
              try simp only [Act.put, List.setIfInBounds_toArray, List.set_cons_zero, List.set_cons_succ]
              refine wpAnyH_take (i := 8) (v := (.agg #[.int .i64 (rl2 R ud ut vd vt), .int .i64 (rl3 R ud ut vd vt)])) rfl (by kernel_rfl) (by kernel_rfl) (by kernel_rfl) (fun _ _ _ h => h) (Or.inl ⟨by rfl, fun w _ => by simp [go_sem, execOp]⟩) hHeld ?_
              try simp only [Act.put, List.setIfInBounds_toArray, List.set_cons_zero, List.set_cons_succ]
              refine wpAnyH_take (i := 9) (v := (.int .i64 (rlC R ud ut vd vt))) rfl (by kernel_rfl) (by kernel_rfl) (by kernel_rfl) (fun _ _ _ h => h) (Or.inl ⟨by rfl, fun w _ => by simp [go_sem, execOp]⟩) hHeld ?_
              try simp only [Act.put, List.setIfInBounds_toArray, List.set_cons_zero, List.set_cons_succ]
              exact key.out _ _ _ (And.intro hHeld (And.intro hbel (And.intro HA10 (And.intro hlo10 (And.intro HA11 (And.intro hlo11 (hne)))))))
    · skip
      go_simp
      refine hK.out _ _ (⟨Blk.alloc _ hHeld.1, Blk.alloc _ hHeld.2.1, Blk.alloc _ hHeld.2.2.1, Blk.alloc _ hHeld.2.2.2.1, Blk.alloc _ hHeld.2.2.2.2.1, Blk.alloc _ hHeld.2.2.2.2.2.1, Blk.alloc _ hHeld.2.2.2.2.2.2⟩) (fun hHeld => ?_)
      clear hK K
      try simp only [Act.put, List.setIfInBounds_toArray, List.set_cons_zero, List.set_cons_succ]
      have HA11 := Blk.new wA 34 #[.int .i64 0, .int .i64 0]
      have hlo11 : V.heap.size ≤ wA.heap.size := hsz
      replace hbel : Below w.heap.size w (wA.alloc (.cells #[.int .i64 0, .int .i64 0] 34)) := Bel.alloc hbel _
      replace hsz : V.heap.size ≤ (wA.alloc (.cells #[.int .i64 0, .int .i64 0] 34)).heap.size := by simp only [World.size_alloc]; omega
      generalize (wA.alloc (.cells #[.int .i64 0, .int .i64 0] 34)) = w150 at hHeld hbel hsz HA11 hlo11 ⊢
      generalize wA.heap.size = a11 at HA11 hlo11 ⊢
      refine wpAnyH_ready (rs := [2, 10]) (by kernel_rfl) (by simp) ?_
      refine AllReadyH.cons rfl (fun K hK => ?_) (AllReadyH.cons rfl (fun K hK => ?_) AllReadyH.nil)
      · skip
        go_simp
        go_at_call 30; refine (toFigure_c ud ut _).mono ?_; rintro e w151 ⟨rfl, hb151⟩
        go_wp2_with fail
        refine hK.out _ _ (⟨Blk.step hb151 hHeld.1, Blk.step hb151 hHeld.2.1, Blk.step hb151 hHeld.2.2.1, Blk.step hb151 hHeld.2.2.2.1, Blk.step hb151 hHeld.2.2.2.2.1, Blk.step hb151 hHeld.2.2.2.2.2.1, Blk.step hb151 hHeld.2.2.2.2.2.2⟩) (fun hHeld => ?_)
        clear hK K
        try simp only [Act.put, List.setIfInBounds_toArray, List.set_cons_zero, List.set_cons_succ]
        replace hbel := Bel.step hb151 hbel
        replace hsz : V.heap.size ≤ w151.heap.size := Nat.le_trans hsz hb151.size
        replace HA11 := Blk.step hb151 HA11
        clear hb151
        refine wpAnyH_ready (rs := [4, 10]) (by kernel_rfl) (by simp) ?_
        refine AllReadyH.cons rfl (fun K hK => ?_) (AllReadyH.cons rfl (fun K hK => ?_) AllReadyH.nil)
        · skip
          go_simp
          go_at_call 30; refine (toFigure_c vd vt _).mono ?_; rintro e w152 ⟨rfl, hb152⟩
          go_wp2_with fail
          refine hK.out _ _ (⟨Blk.step hb152 hHeld.1, Blk.step hb152 hHeld.2.1, Blk.step hb152 hHeld.2.2.1, Blk.step hb152 hHeld.2.2.2.1, Blk.step hb152 hHeld.2.2.2.2.1, Blk.step hb152 hHeld.2.2.2.2.2.1, Blk.step hb152 hHeld.2.2.2.2.2.2⟩) (fun hHeld => ?_)
          clear hK K
          try simp only [Act.put, List.setIfInBounds_toArray, List.set_cons_zero, List.set_cons_succ]
          replace hbel := Bel.step hb152 hbel
          replace hsz : V.heap.size ≤ w152.heap.size := Nat.le_trans hsz hb152.size
          replace HA11 := Blk.step hb152 HA11
          clear hb152
          refine wpAnyH_ready (rs := [5, 10]) (by kernel_rfl) (by simp) ?_
          refine AllReadyH.cons rfl (fun K hK => ?_) (AllReadyH.cons rfl (fun K hK => ?_) AllReadyH.nil)
          · skip
            go_simp
            go_at_call 40; refine (ReadRelease_I _ _ _ _ _ _ _ hn hm _ hHeld.2.2.2.2.2.2.ints).mono ?_; rintro e w153 ⟨rfl, hb153⟩
            go_wp2_with fail
            refine hK.out _ _ (⟨Blk.step hb153 hHeld.1, Blk.step hb153 hHeld.2.1, Blk.step hb153 hHeld.2.2.1, Blk.step hb153 hHeld.2.2.2.1, Blk.step hb153 hHeld.2.2.2.2.1, Blk.step hb153 hHeld.2.2.2.2.2.1, Blk.step hb153 hHeld.2.2.2.2.2.2⟩) (fun hHeld => ?_)
            clear hK K
            try simp only [Act.put, List.setIfInBounds_toArray, List.set_cons_zero, List.set_cons_succ]
            replace hbel := Bel.step hb153 hbel
            replace hsz : V.heap.size ≤ w153.heap.size := Nat.le_trans hsz hb153.size
            replace HA11 := Blk.step hb153 HA11
            clear hb153
            refine wpAnyH_take (i := 6) (v := (.tuple #[.agg #[.int .i64 (rl0 R ud ut vd vt), .int .i64 (rl1 R ud ut vd vt)], .agg #[.int .i64 (rl2 R ud ut vd vt), .int .i64 (rl3 R ud ut vd vt)], .int .i64 (rlC R ud ut vd vt)])) rfl (by kernel_rfl) (by kernel_rfl) (by kernel_rfl) (fun _ _ _ h => h) (Or.inl ⟨by rfl, fun w _ => by simp [go_sem, execOp]⟩) hHeld ?_
            try simp only [Act.put, List.setIfInBounds_toArray, List.set_cons_zero, List.set_cons_succ]
            refine wpAnyH_take (i := 7) (v := (.agg #[.int .i64 (rl0 R ud ut vd vt), .int .i64 (rl1 R ud ut vd vt)])) rfl (by kernel_rfl) (by kernel_rfl) (by kernel_rfl) (fun _ _ _ h => h) (Or.inl ⟨by rfl, fun w _ => by simp [go_sem, execOp]⟩) hHeld ?_
            try simp only [Act.put, List.setIfInBounds_toArray, List.set_cons_zero, List.set_cons_succ]
            refine wpAnyH_take (i := 8) (v := (.agg #[.int .i64 (rl2 R ud ut vd vt), .int .i64 (rl3 R ud ut vd vt)])) rfl (by kernel_rfl) (by kernel_rfl) (by kernel_rfl) (fun _ _ _ h => h) (Or.inl ⟨by rfl, fun w _ => by simp [go_sem, execOp]⟩) hHeld ?_
            try simp only [Act.put, List.setIfInBounds_toArray, List.set_cons_zero, List.set_cons_succ]
            refine wpAnyH_take (i := 9) (v := (.int .i64 (rlC R ud ut vd vt))) rfl (by kernel_rfl) (by kernel_rfl) (by kernel_rfl) (fun _ _ _ h => h) (Or.inl ⟨by rfl, fun w _ => by simp [go_sem, execOp]⟩) hHeld ?_
            try simp only [Act.put, List.setIfInBounds_toArray, List.set_cons_zero, List.set_cons_succ]
            refine wpAnyH_ready (rs := [10]) (by kernel_rfl) (by simp) ?_
            refine AllReadyH.cons rfl (fun K hK => ?_) AllReadyH.nil
            · skip
              go_simp
              refine hK.out _ _ (⟨Blk.alloc _ hHeld.1, Blk.alloc _ hHeld.2.1, Blk.alloc _ hHeld.2.2.1, Blk.alloc _ hHeld.2.2.2.1, Blk.alloc _ hHeld.2.2.2.2.1, Blk.alloc _ hHeld.2.2.2.2.2.1, Blk.alloc _ hHeld.2.2.2.2.2.2⟩) (fun hHeld => ?_)
              clear hK K
              try simp only [Act.put, List.setIfInBounds_toArray, List.set_cons_zero, List.set_cons_succ]
              have HA10 := Blk.new w153 34 #[.int .i64 0, .int .i64 0]
              have hlt := HA11.lt
              have hne : w153.heap.size ≠ a11 := by omega
              replace HA11 : Blk (w153.alloc (.cells #[.int .i64 0, .int .i64 0] 34)) a11 34 #[.int .i64 0, .int .i64 0] := Blk.alloc _ HA11
              clear hlt
              have hlo10 : V.heap.size ≤ w153.heap.size := hsz
              replace hbel : Below w.heap.size w (w153.alloc (.cells #[.int .i64 0, .int .i64 0] 34)) := Bel.alloc hbel _
              replace hsz : V.heap.size ≤ (w153.alloc (.cells #[.int .i64 0, .int .i64 0] 34)).heap.size := by simp only [World.size_alloc]; omega
              generalize (w153.alloc (.cells #[.int .i64 0, .int .i64 0] 34)) = w154 at hHeld hbel hsz HA10 hlo10 HA11 hne ⊢
              generalize w153.heap.size = a10 at HA10 hlo10 hne ⊢
              exact key.out _ _ _ (And.intro hHeld (And.intro hbel (And.intro HA10 (And.intro hlo10 (And.intro HA11 (And.intro hlo11 (hne)))))))
          · skip
            go_simp
            refine hK.out _ _ (⟨Blk.alloc _ hHeld.1, Blk.alloc _ hHeld.2.1, Blk.alloc _ hHeld.2.2.1, Blk.alloc _ hHeld.2.2.2.1, Blk.alloc _ hHeld.2.2.2.2.1, Blk.alloc _ hHeld.2.2.2.2.2.1, Blk.alloc _ hHeld.2.2.2.2.2.2⟩) (fun hHeld => ?_)
            clear hK K
            try simp only [Act.put, List.setIfInBounds_toArray, List.set_cons_zero, List.set_cons_succ]
            have HA10 := Blk.new w152 34 #[.int .i64 0, .int .i64 0]
            have hlt := HA11.lt
            have hne : w152.heap.size ≠ a11 := by omega
            replace HA11 : Blk (w152.alloc (.cells #[.int .i64 0, .int .i64 0] 34)) a11 34 #[.int .i64 0, .int .i64 0] := Blk.alloc _ HA11
            clear hlt
            have hlo10 : V.heap.size ≤ w152.heap.size := hsz
            replace hbel : Below w.heap.size w (w152.alloc (.cells #[.int .i64 0, .int .i64 0] 34)) := Bel.alloc hbel _
            replace hsz : V.heap.size ≤ (w152.alloc (.cells #[.int .i64 0, .int .i64 0] 34)).heap.size := by simp only [World.size_alloc]; omega
            generalize (w152.alloc (.cells #[.int .i64 0, .int .i64 0] 34)) = w155 at hHeld hbel hsz HA10 hlo10 HA11 hne ⊢
            generalize w152.heap.size = a10 at HA10 hlo10 hne ⊢
            refine wpAnyH_ready (rs := [5]) (by kernel_rfl) (by simp) ?_
            refine AllReadyH.cons rfl (fun K hK => ?_) AllReadyH.nil
            · skip
              go_simp
              go_at_call 40; refine (ReadRelease_I _ _ _ _ _ _ _ hn hm _ hHeld.2.2.2.2.2.2.ints).mono ?_; rintro e w156 ⟨rfl, hb156⟩
              go_wp2_with fail
              refine hK.out _ _ (⟨Blk.step hb156 hHeld.1, Blk.step hb156 hHeld.2.1, Blk.step hb156 hHeld.2.2.1, Blk.step hb156 hHeld.2.2.2.1, Blk.step hb156 hHeld.2.2.2.2.1, Blk.step hb156 hHeld.2.2.2.2.2.1, Blk.step hb156 hHeld.2.2.2.2.2.2⟩) (fun hHeld => ?_)
              clear hK K
              try simp only [Act.put, List.setIfInBounds_toArray, List.set_cons_zero, List.set_cons_succ]
              replace hbel := Bel.step hb156 hbel
              replace hsz : V.heap.size ≤ w156.heap.size := Nat.le_trans hsz hb156.size
              replace HA10 := Blk.step hb156 HA10
              replace HA11 := Blk.step hb156 HA11
              clear hb156
              refine wpAnyH_take (i := 6) (v := (.tuple #[.agg #[.int .i64 (rl0 R ud ut vd vt), .int .i64 (rl1 R ud ut vd vt)], .agg #[.int .i64 (rl2 R ud ut vd vt), .int .i64 (rl3 R ud ut vd vt)], .int .i64 (rlC R ud ut vd vt)])) rfl (by kernel_rfl) (by kernel_rfl) (by kernel_rfl) (fun _ _ _ h => h) (Or.inl ⟨by rfl, fun w _ => by simp [go_sem, execOp]⟩) hHeld ?_
              try simp only [Act.put, List.setIfInBounds_toArray, List.set_cons_zero, List.set_cons_succ]
              refine wpAnyH_take (i := 7) (v := (.agg #[.int .i64 (rl0 R ud ut vd vt), .int .i64 (rl1 R ud ut vd vt)])) rfl (by kernel_rfl) (by kernel_rfl) (by kernel_rfl) (fun _ _ _ h => h) (Or.inl ⟨by rfl, fun w _ => by simp [go_sem, execOp]⟩) hHeld ?_
              try simp only [Act.put, List.setIfInBounds_toArray, List.set_cons_zero, List.set_cons_succ]
              refine wpAnyH_take (i := 8) (v := (.agg #[.int .i64 (rl2 R ud ut vd vt), .int .i64 (rl3 R ud ut vd vt)])) rfl (by kernel_rfl) (by kernel_rfl) (by kernel_rfl) (fun _ _ _ h => h) (Or.inl ⟨by rfl, fun w _ => by simp [go_sem, execOp]⟩) hHeld ?_
              try simp only [Act.put, List.setIfInBounds_toArray, List.set_cons_zero, List.set_cons_succ]
              refine wpAnyH_take (i := 9) (v := (.int .i64 (rlC R ud ut vd vt))) rfl (by kernel_rfl) (by kernel_rfl) (by kernel_rfl) (fun _ _ _ h => h) (Or.inl ⟨by rfl, fun w _ => by simp [go_sem, execOp]⟩) hHeld ?_
              try simp only [Act.put, List.setIfInBounds_toArray, List.set_cons_zero, List.set_cons_succ]
              exact key.out _ _ _ (And.intro hHeld (And.intro hbel (And.intro HA10 (And.intro hlo10 (And.intro HA11 (And.intro hlo11 (hne)))))))
        · skip
          go_simp
          refine hK.out _ _ (⟨Blk.alloc _ hHeld.1, Blk.alloc _ hHeld.2.1, Blk.alloc _ hHeld.2.2.1, Blk.alloc _ hHeld.2.2.2.1, Blk.alloc _ hHeld.2.2.2.2.1, Blk.alloc _ hHeld.2.2.2.2.2.1, Blk.alloc _ hHeld.2.2.2.2.2.2⟩) (fun hHeld => ?_)
          clear hK K
          try simp only [Act.put, List.setIfInBounds_toArray, List.set_cons_zero, List.set_cons_succ]
          have HA10 := Blk.new w151 34 #[.int .i64 0, .int .i64 0]
          have hlt := HA11.lt
          have hne : w151.heap.size ≠ a11 := by omega
          replace HA11 : Blk (w151.alloc (.cells #[.int .i64 0, .int .i64 0] 34)) a11 34 #[.int .i64 0, .int .i64 0] := Blk.alloc _ HA11
          clear hlt
          have hlo10 : V.heap.size ≤ w151.heap.size := hsz
          replace hbel : Below w.heap.size w (w151.alloc (.cells #[.int .i64 0, .int .i64 0] 34)) := Bel.alloc hbel _
          replace hsz : V.heap.size ≤ (w151.alloc (.cells #[.int .i64 0, .int .i64 0] 34)).heap.size := by simp only [World.size_alloc]; omega
          generalize (w151.alloc (.cells #[.int .i64 0, .int .i64 0] 34)) = w157 at hHeld hbel hsz HA10 hlo10 HA11 hne ⊢
          generalize w151.heap.size = a10 at HA10 hlo10 hne ⊢
          refine wpAnyH_ready (rs := [4]) (by kernel_rfl) (by simp) ?_
          refine AllReadyH.cons rfl (fun K hK => ?_) AllReadyH.nil
          · skip
            go_simp
            go_at_call 30; refine (toFigure_c vd vt _).mono ?_; rintro e w158 ⟨rfl, hb158⟩
            go_wp2_with fail
            refine hK.out _ _ (⟨Blk.step hb158 hHeld.1, Blk.step hb158 hHeld.2.1, Blk.step hb158 hHeld.2.2.1, Blk.step hb158 hHeld.2.2.2.1, Blk.step hb158 hHeld.2.2.2.2.1, Blk.step hb158 hHeld.2.2.2.2.2.1, Blk.step hb158 hHeld.2.2.2.2.2.2⟩) (fun hHeld => ?_)
            clear hK K
            try simp only [Act.put, List.setIfInBounds_toArray, List.set_cons_zero, List.set_cons_succ]
            replace hbel := Bel.step hb158 hbel
            replace hsz : V.heap.size ≤ w158.heap.size := Nat.le_trans hsz hb158.size
            replace HA10 := Blk.step hb158 HA10
            replace HA11 := Blk.step hb158 HA11
            clear hb158
            refine wpAnyH_ready (rs := [5]) (by kernel_rfl) (by simp) ?_
            refine AllReadyH.cons rfl (fun K hK => ?_) AllReadyH.nil
            · skip
              go_simp
              go_at_call 40; refine (ReadRelease_I _ _ _ _ _ _ _ hn hm _ hHeld.2.2.2.2.2.2.ints).mono ?_; rintro e w159 ⟨rfl, hb159⟩
              go_wp2_with fail
              refine hK.out _ _ (⟨Blk.step hb159 hHeld.1, Blk.step hb159 hHeld.2.1, Blk.step hb159 hHeld.2.2.1, Blk.step hb159 hHeld.2.2.2.1, Blk.step hb159 hHeld.2.2.2.2.1, Blk.step hb159 hHeld.2.2.2.2.2.1, Blk.step hb159 hHeld.2.2.2.2.2.2⟩) (fun hHeld => ?_)
              clear hK K
              try simp only [Act.put, List.setIfInBounds_toArray, List.set_cons_zero, List.set_cons_succ]
              replace hbel := Bel.step hb159 hbel
              replace hsz : V.heap.size ≤ w159.heap.size := Nat.le_trans hsz hb159.size
              replace HA10 := Blk.step hb159 HA10
              replace HA11 := Blk.step hb159 HA11
              clear hb159
              refine wpAnyH_take (i := 6) (v := (.tuple #[.agg #[.int .i64 (rl0 R ud ut vd vt), .int .i64 (rl1 R ud ut vd vt)], .agg #[.int .i64 (rl2 R ud ut vd vt), .int .i64 (rl3 R ud ut vd vt)], .int .i64 (rlC R ud ut vd vt)])) rfl (by kernel_rfl) (by kernel_rfl) (by kernel_rfl) (fun _ _ _ h => h) (Or.inl ⟨by rfl, fun w _ => by simp [go_sem, execOp]⟩) hHeld ?_
              try simp only [Act.put, List.setIfInBounds_toArray, List.set_cons_zero, List.set_cons_succ]
              refine wpAnyH_take (i := 7) (v := (.agg #[.int .i64 (rl0 R ud ut vd vt), .int .i64 (rl1 R ud ut vd vt)])) rfl (by kernel_rfl) (by kernel_rfl) (by kernel_rfl) (fun _ _ _ h => h) (Or.inl ⟨by rfl, fun w _ => by simp [go_sem, execOp]⟩) hHeld ?_
              try simp only [Act.put, List.setIfInBounds_toArray, List.set_cons_zero, List.set_cons_succ]
              refine wpAnyH_take (i := 8) (v := (.agg #[.int .i64 (rl2 R ud ut vd vt), .int .i64 (rl3 R ud ut vd vt)])) rfl (by kernel_rfl) (by kernel_rfl) (by kernel_rfl) (fun _ _ _ h => h) (Or.inl ⟨by rfl, fun w _ => by simp [go_sem, execOp]⟩) hHeld ?_
              try simp only [Act.put, List.setIfInBounds_toArray, List.set_cons_zero, List.set_cons_succ]
              refine wpAnyH_take (i := 9) (v := (.int .i64 (rlC R ud ut vd vt))) rfl (by kernel_rfl) (by kernel_rfl) (by kernel_rfl) (fun _ _ _ h => h) (Or.inl ⟨by rfl, fun w _ => by simp [go_sem, execOp]⟩) hHeld ?_
              try simp only [Act.put, List.setIfInBounds_toArray, List.set_cons_zero, List.set_cons_succ]
              exact key.out _ _ _ (And.intro hHeld (And.intro hbel (And.intro HA10 (And.intro hlo10 (And.intro HA11 (And.intro hlo11 (hne)))))))
      · skip
        go_simp
        refine hK.out _ _ (⟨Blk.alloc _ hHeld.1, Blk.alloc _ hHeld.2.1, Blk.alloc _ hHeld.2.2.1, Blk.alloc _ hHeld.2.2.2.1, Blk.alloc _ hHeld.2.2.2.2.1, Blk.alloc _ hHeld.2.2.2.2.2.1, Blk.alloc _ hHeld.2.2.2.2.2.2⟩) (fun hHeld => ?_)
        clear hK K
        try simp only [Act.put, List.setIfInBounds_toArray, List.set_cons_zero, List.set_cons_succ]
        have HA10 := Blk.new w150 34 #[.int .i64 0, .int .i64 0]
        have hlt := HA11.lt
        have hne : w150.heap.size ≠ a11 := by omega
        replace HA11 : Blk (w150.alloc (.cells #[.int .i64 0, .int .i64 0] 34)) a11 34 #[.int .i64 0, .int .i64 0] := Blk.alloc _ HA11
        clear hlt
        have hlo10 : V.heap.size ≤ w150.heap.size := hsz
        replace hbel : Below w.heap.size w (w150.alloc (.cells #[.int .i64 0, .int .i64 0] 34)) := Bel.alloc hbel _
        replace hsz : V.heap.size ≤ (w150.alloc (.cells #[.int .i64 0, .int .i64 0] 34)).heap.size := by simp only [World.size_alloc]; omega
        generalize (w150.alloc (.cells #[.int .i64 0, .int .i64 0] 34)) = w160 at hHeld hbel hsz HA10 hlo10 HA11 hne ⊢
        generalize w150.heap.size = a10 at HA10 hlo10 hne ⊢
        refine wpAnyH_ready (rs := [2]) (by kernel_rfl) (by simp) ?_
        refine AllReadyH.cons rfl (fun K hK => ?_) AllReadyH.nil
        · skip
          go_simp
          go_at_call 30; refine (toFigure_c ud ut _).mono ?_; rintro e w161 ⟨rfl, hb161⟩
          go_wp2_with fail
          refine hK.out _ _ (⟨Blk.step hb161 hHeld.1, Blk.step hb161 hHeld.2.1, Blk.step hb161 hHeld.2.2.1, Blk.step hb161 hHeld.2.2.2.1, Blk.step hb161 hHeld.2.2.2.2.1, Blk.step hb161 hHeld.2.2.2.2.2.1, Blk.step hb161 hHeld.2.2.2.2.2.2⟩) (fun hHeld => ?_)
          clear hK K
          try simp only [Act.put, List.setIfInBounds_toArray, List.set_cons_zero, List.set_cons_succ]
          replace hbel := Bel.step hb161 hbel
          replace hsz : V.heap.size ≤ w161.heap.size := Nat.le_trans hsz hb161.size
          replace HA10 := Blk.step hb161 HA10
          replace HA11 := Blk.step hb161 HA11
          clear hb161
          refine wpAnyH_ready (rs := [4]) (by kernel_rfl) (by simp) ?_
          refine AllReadyH.cons rfl (fun K hK => ?_) AllReadyH.nil
          · skip
            go_simp
            go_at_call 30; refine (toFigure_c vd vt _).mono ?_; rintro e w162 ⟨rfl, hb162⟩
            go_wp2_with fail
            refine hK.out _ _ (⟨Blk.step hb162 hHeld.1, Blk.step hb162 hHeld.2.1, Blk.step hb162 hHeld.2.2.1, Blk.step hb162 hHeld.2.2.2.1, Blk.step hb162 hHeld.2.2.2.2.1, Blk.step hb162 hHeld.2.2.2.2.2.1, Blk.step hb162 hHeld.2.2.2.2.2.2⟩) (fun hHeld => ?_)
            clear hK K
            try simp only [Act.put, List.setIfInBounds_toArray, List.set_cons_zero, List.set_cons_succ]
            replace hbel := Bel.step hb162 hbel
            replace hsz : V.heap.size ≤ w162.heap.size := Nat.le_trans hsz hb162.size
            replace HA10 := Blk.step hb162 HA10
            replace HA11 := Blk.step hb162 HA11
            clear hb162
            refine wpAnyH_ready (rs := [5]) (by kernel_rfl) (by simp) ?_
            refine AllReadyH.cons rfl (fun K hK => ?_) AllReadyH.nil
            · skip
              go_simp
              go_at_call 40; refine (ReadRelease_I _ _ _ _ _ _ _ hn hm _ hHeld.2.2.2.2.2.2.ints).mono ?_; rintro e w163 ⟨rfl, hb163⟩
              go_wp2_with fail
              refine hK.out _ _ (⟨Blk.step hb163 hHeld.1, Blk.step hb163 hHeld.2.1, Blk.step hb163 hHeld.2.2.1, Blk.step hb163 hHeld.2.2.2.1, Blk.step hb163 hHeld.2.2.2.2.1, Blk.step hb163 hHeld.2.2.2.2.2.1, Blk.step hb163 hHeld.2.2.2.2.2.2⟩) (fun hHeld => ?_)
              clear hK K
              try simp only [Act.put, List.setIfInBounds_toArray, List.set_cons_zero, List.set_cons_succ]
              replace hbel := Bel.step hb163 hbel
              replace hsz : V.heap.size ≤ w163.heap.size := Nat.le_trans hsz hb163.size
              replace HA10 := Blk.step hb163 HA10
              replace HA11 := Blk.step hb163 HA11
              clear hb163
              refine wpAnyH_take (i := 6) (v := (.tuple #[.agg #[.int .i64 (rl0 R ud ut vd vt), .int .i64 (rl1 R ud ut vd vt)], .agg #[.int .i64 (rl2 R ud ut vd vt), .int .i64 (rl3 R ud ut vd vt)], .int .i64 (rlC R ud ut vd vt)])) rfl (by kernel_rfl) (by kernel_rfl) (by kernel_rfl) (fun _ _ _ h => h) (Or.inl ⟨by rfl, fun w _ => by simp [go_sem, execOp]⟩) hHeld ?_
              try simp only [Act.put, List.setIfInBounds_toArray, List.set_cons_zero, List.set_cons_succ]
              refine wpAnyH_take (i := 7) (v := (.agg #[.int .i64 (rl0 R ud ut vd vt), .int .i64 (rl1 R ud ut vd vt)])) rfl (by kernel_rfl) (by kernel_rfl) (by kernel_rfl) (fun _ _ _ h => h) (Or.inl ⟨by rfl, fun w _ => by simp [go_sem, execOp]⟩) hHeld ?_
              try simp only [Act.put, List.setIfInBounds_toArray, List.set_cons_zero, List.set_cons_succ]
              refine wpAnyH_take (i := 8) (v := (.agg #[.int .i64 (rl2 R ud ut vd vt), .int .i64 (rl3 R ud ut vd vt)])) rfl (by kernel_rfl) (by kernel_rfl) (by kernel_rfl) (fun _ _ _ h => h) (Or.inl ⟨by rfl, fun w _ => by simp [go_sem, execOp]⟩) hHeld ?_
              try simp only [Act.put, List.setIfInBounds_toArray, List.set_cons_zero, List.set_cons_succ]
              refine wpAnyH_take (i := 9) (v := (.int .i64 (rlC R ud ut vd vt))) rfl (by kernel_rfl) (by kernel_rfl) (by kernel_rfl) (fun _ _ _ h => h) (Or.inl ⟨by rfl, fun w _ => by simp [go_sem, execOp]⟩) hHeld ?_
              try simp only [Act.put, List.setIfInBounds_toArray, List.set_cons_zero, List.set_cons_succ]
              exact key.out _ _ _ (And.intro hHeld (And.intro hbel (And.intro HA10 (And.intro hlo10 (And.intro HA11 (And.intro hlo11 (hne)))))))
  intro x' U y' ⟨hHeld, hbel, HX, hx', HY, hy', hne'⟩
  have lg := HGV.lt
  have lY := HYV.lt
  have lx := HXV.lt
  have ly := HYV2.lt
  have lv := HvV.lt
  have x0 : U.cell? ⟨x', 0, none⟩ = some (.int .i64 0) := by rw [HX.cell]; rfl
  have x1 : U.cell? ⟨x', 1, none⟩ = some (.int .i64 0) := by rw [HX.cell]; rfl
  have y0 : U.cell? ⟨y', 0, none⟩ = some (.int .i64 0) := by rw [HY.cell]; rfl
  have y1 : U.cell? ⟨y', 1, none⟩ = some (.int .i64 0) := by rw [HY.cell]; rfl
  have xf0 := HX.frozen 0
  have xf1 := HX.frozen 1
  have yf0 := HY.frozen 0
  have yf1 := HY.frozen 1
  have nyx' : y' ≠ x' := fun h => hne' h.symm
  refine wpAnyH_ready (rs := [12]) (by kernel_rfl) (by simp) ?_
  refine AllReadyH.cons rfl (fun K hK => ?_) AllReadyH.nil
  go_simp
  refine hK.out _ _ (⟨Blk.far _ (by first | (simp; done) | (simp; omega)) (Blk.far _ (by first | (simp; done) | (simp; omega)) hHeld.1), Blk.far _ (by first | (simp; done) | (simp; omega)) (Blk.far _ (by first | (simp; done) | (simp; omega)) hHeld.2.1), Blk.far _ (by first | (simp; done) | (simp; omega)) (Blk.far _ (by first | (simp; done) | (simp; omega)) hHeld.2.2.1), Blk.far _ (by first | (simp; done) | (simp; omega)) (Blk.far _ (by first | (simp; done) | (simp; omega)) hHeld.2.2.2.1), Blk.far _ (by first | (simp; done) | (simp; omega)) (Blk.far _ (by first | (simp; done) | (simp; omega)) hHeld.2.2.2.2.1), Blk.far _ (by first | (simp; done) | (simp; omega)) (Blk.far _ (by first | (simp; done) | (simp; omega)) hHeld.2.2.2.2.2.1), Blk.far _ (by first | (simp; done) | (simp; omega)) (Blk.far _ (by first | (simp; done) | (simp; omega)) hHeld.2.2.2.2.2.2)⟩) (fun hHeld => ?_)
  clear hK K
  try simp only [Act.put, List.setIfInBounds_toArray, List.set_cons_zero, List.set_cons_succ]
  refine wpAnyH_ready (rs := [13]) (by kernel_rfl) (by simp) ?_
  refine AllReadyH.cons rfl (fun K hK => ?_) AllReadyH.nil
  go_simp
  refine hK.out _ _ (⟨Blk.far _ (by first | (simp; done) | (simp; omega)) (Blk.far _ (by first | (simp; done) | (simp; omega)) hHeld.1), Blk.far _ (by first | (simp; done) | (simp; omega)) (Blk.far _ (by first | (simp; done) | (simp; omega)) hHeld.2.1), Blk.far _ (by first | (simp; done) | (simp; omega)) (Blk.far _ (by first | (simp; done) | (simp; omega)) hHeld.2.2.1), Blk.far _ (by first | (simp; done) | (simp; omega)) (Blk.far _ (by first | (simp; done) | (simp; omega)) hHeld.2.2.2.1), Blk.far _ (by first | (simp; done) | (simp; omega)) (Blk.far _ (by first | (simp; done) | (simp; omega)) hHeld.2.2.2.2.1), Blk.far _ (by first | (simp; done) | (simp; omega)) (Blk.far _ (by first | (simp; done) | (simp; omega)) hHeld.2.2.2.2.2.1), Blk.far _ (by first | (simp; done) | (simp; omega)) (Blk.far _ (by first | (simp; done) | (simp; omega)) hHeld.2.2.2.2.2.2)⟩) (fun hHeld => ?_)
  clear hK K
  try simp only [Act.put, List.setIfInBounds_toArray, List.set_cons_zero, List.set_cons_succ]
  have HX6 : Blk ((((U.setCell ⟨x', 0, none⟩ (.int .i64 (rl0 R ud ut vd vt))).setCell ⟨x', 1, none⟩ (.int .i64 (rl1 R ud ut vd vt))).setCell ⟨y', 0, none⟩ (.int .i64 (rl2 R ud ut vd vt))).setCell ⟨y', 1, none⟩ (.int .i64 (rl3 R ud ut vd vt))) x' 34 #[.int .i64 (rl0 R ud ut vd vt), .int .i64 (rl1 R ud ut vd vt)] := Blk.far _ (by first | (simp; done) | (simp; omega)) (Blk.far _ (by first | (simp; done) | (simp; omega)) (by simpa using (HX.set_ 0 (.int .i64 (rl0 R ud ut vd vt))).set_ 1 (.int .i64 (rl1 R ud ut vd vt))))
  have HY6 : Blk ((((U.setCell ⟨x', 0, none⟩ (.int .i64 (rl0 R ud ut vd vt))).setCell ⟨x', 1, none⟩ (.int .i64 (rl1 R ud ut vd vt))).setCell ⟨y', 0, none⟩ (.int .i64 (rl2 R ud ut vd vt))).setCell ⟨y', 1, none⟩ (.int .i64 (rl3 R ud ut vd vt))) y' 34 #[.int .i64 (rl2 R ud ut vd vt), .int .i64 (rl3 R ud ut vd vt)] := by simpa using ((Blk.far (p := ⟨x', 1, none⟩) (.int .i64 (rl1 R ud ut vd vt)) (by simpa using nyx') (Blk.far (p := ⟨x', 0, none⟩) (.int .i64 (rl0 R ud ut vd vt)) (by simpa using nyx') HY)).set_ 0 (.int .i64 (rl2 R ud ut vd vt))).set_ 1 (.int .i64 (rl3 R ud ut vd vt))
  have l1 := hbV.size
  have hbel6 : Below w.heap.size w ((((U.setCell ⟨x', 0, none⟩ (.int .i64 (rl0 R ud ut vd vt))).setCell ⟨x', 1, none⟩ (.int .i64 (rl1 R ud ut vd vt))).setCell ⟨y', 0, none⟩ (.int .i64 (rl2 R ud ut vd vt))).setCell ⟨y', 1, none⟩ (.int .i64 (rl3 R ud ut vd vt))) := (((hbel.setCell (by simp; omega) _).setCell (by simp; omega) _).setCell (by simp; omega) _).setCell (by simp; omega) _
  generalize (((U.setCell ⟨x', 0, none⟩ (.int .i64 (rl0 R ud ut vd vt))).setCell ⟨x', 1, none⟩ (.int .i64 (rl1 R ud ut vd vt))).setCell ⟨y', 0, none⟩ (.int .i64 (rl2 R ud ut vd vt))).setCell ⟨y', 1, none⟩ (.int .i64 (rl3 R ud ut vd vt)) = w6 at hHeld HX6 HY6 hbel6 ⊢
  refine wpAnyH_take (i := 14) (v := (.int .i64 (rlC R ud ut vd vt))) rfl (by kernel_rfl) (by kernel_rfl) (by kernel_rfl) (fun _ _ _ h => h) (Or.inl ⟨by rfl, fun w _ => by simp [go_sem, execOp]⟩) hHeld ?_
  simp only [Act.put, List.getElem_toArray, List.getElem_cons_succ, List.getElem_cons_zero, List.setIfInBounds_toArray, List.set_cons_zero, List.set_cons_succ]
  refine wpAnyH_done (by kernel_rfl) ?_ _
  obtain ⟨HY7, _, _, HB7, HX7, HZ7, HG7⟩ := hHeld
  clear HX HY x0 x1 y0 y1 xf0 xf1 yf0 yf1 hbel
  have p0 : w6.cell? ⟨x, 0, none⟩ = some (.int .i64 (rl0 R ud ut vd vt)) := by rw [HX7.cell]; rfl
  have p1 : w6.cell? ⟨x, 1, none⟩ = some (.int .i64 (rl1 R ud ut vd vt)) := by rw [HX7.cell]; rfl
  have p2 : w6.cell? ⟨y, 0, none⟩ = some (.int .i64 (rl2 R ud ut vd vt)) := by rw [HZ7.cell]; rfl
  have p3 : w6.cell? ⟨y, 1, none⟩ = some (.int .i64 (rl3 R ud ut vd vt)) := by rw [HZ7.cell]; rfl
  have p4 : w6.cell? ⟨x', 0, none⟩ = some (.int .i64 (rl0 R ud ut vd vt)) := by rw [HX6.cell]; rfl
  have p5 : w6.cell? ⟨x', 1, none⟩ = some (.int .i64 (rl1 R ud ut vd vt)) := by rw [HX6.cell]; rfl
  have p6 : w6.cell? ⟨y', 0, none⟩ = some (.int .i64 (rl2 R ud ut vd vt)) := by rw [HY6.cell]; rfl
  have p7 : w6.cell? ⟨y', 1, none⟩ = some (.int .i64 (rl3 R ud ut vd vt)) := by rw [HY6.cell]; rfl
  go_wp2_with fail
  go_at_call 41; refine (eqFigure_c _ _ _ _ _).mono ?_; rintro e w7 ⟨rfl, hb7⟩
  rw [eqP_self]
  have p2 : w7.cell? ⟨y, 0, none⟩ = some (.int .i64 (rl2 R ud ut vd vt)) := by rw [(Blk.step hb7 HZ7).cell]; rfl
  have p3 : w7.cell? ⟨y, 1, none⟩ = some (.int .i64 (rl3 R ud ut vd vt)) := by rw [(Blk.step hb7 HZ7).cell]; rfl
  have p6 : w7.cell? ⟨y', 0, none⟩ = some (.int .i64 (rl2 R ud ut vd vt)) := by rw [(Blk.step hb7 HY6).cell]; rfl
  have p7 : w7.cell? ⟨y', 1, none⟩ = some (.int .i64 (rl3 R ud ut vd vt)) := by rw [(Blk.step hb7 HY6).cell]; rfl
  go_wp2_with fail
  go_at_call 41; refine (eqFigure_c _ _ _ _ _).mono ?_; rintro e w8 ⟨rfl, hb8⟩
  rw [eqP_self]
  have HYE := Blk.step hb8 (Blk.step hb7 HY7)
  have HBE := Blk.step hb8 (Blk.step hb7 HB7)
  have HGE := Blk.step hb8 (Blk.step hb7 HG7)
  have hbel8 := Bel.step hb8 (Bel.step hb7 hbel6)
  clear hb7 hb8 p0 p1 p2 p3 p4 p5 p6 p7 HX6 HY6 HX7 HZ7 HY7 HB7 HG7 hbel6
  go_upto_region 10 with (fail)
  refine wp_region_held_drew (S := fun W => Blk W Y 55 #[.int .i64 R.ch.dg, .int .i64 R.ch.tn, .string R.ch.nm, .slice (some ⟨g3, 0, none⟩) R.ch.zs.length R.ch.zs.length, .int .i64 R.ch.wd, .int .i64 R.ch.lf, .int .i64 R.ch.rt, .int .i64 R.ad, .int .i64 R.at_, .int .i64 R.bd, .int .i64 R.bt, .int .i64 R.cd, .int .i64 R.ct, .int .i64 R.dd, .int .i64 R.dt, .int .i64 R.ey, .int .i64 R.bo] ∧ Blk W w.heap.size 52 #[.int .i64 R.ch.dg, .int .i64 R.ch.tn, .string R.ch.nm, .slice A R.ch.zs.length c, .int .i64 R.ch.wd, .int .i64 R.ch.lf, .int .i64 R.ch.rt, .int .i64 R.ad, .int .i64 R.at_, .int .i64 R.bd, .int .i64 R.bt, .int .i64 R.cd, .int .i64 R.ct, .int .i64 R.dd, .int .i64 R.dt, .int .i64 R.ey, .int .i64 R.bo]) (by kernel_rfl) (⟨Blk.drew HYE, Blk.drew HBE⟩) (fun hHeld => ?_)
  have hbA : Below w.heap.size w w8.drew := Below.drew hbel8
  have HIA : Ints w8.drew A R.ch.zs := Ints.step hbA hA
  have HJA : Ints w8.drew (some ⟨g3, 0, none⟩) R.ch.zs := (Blk.drew HGE).ints
  generalize w8.drew = wE at hbA HIA HJA hHeld ⊢
  clear HYE HBE HGE hbel8
  refine wpAnyH_take (i := 0) (v := .agg #[.int .i64 R.ch.dg, .int .i64 R.ch.tn, .string R.ch.nm, .slice (some ⟨g3, 0, none⟩) R.ch.zs.length R.ch.zs.length, .int .i64 R.ch.wd, .int .i64 R.ch.lf, .int .i64 R.ch.rt, .int .i64 R.ad, .int .i64 R.at_, .int .i64 R.bd, .int .i64 R.bt, .int .i64 R.cd, .int .i64 R.ct, .int .i64 R.dd, .int .i64 R.dt, .int .i64 R.ey, .int .i64 R.bo]) rfl (by kernel_rfl) (by kernel_rfl) (by kernel_rfl) (fun _ _ _ h => h) (yieldsIf_load_blk 55 _ (Y) (fun _ h => h.1) Try.underlying55 (by kernel_rfl) (by rfl) rfl rfl) hHeld ?_
  try simp only [Act.put, List.setIfInBounds_toArray, List.set_cons_zero, List.set_cons_succ]
  refine wpAnyH_take (i := 1) (v := .agg #[.int .i64 R.ch.dg, .int .i64 R.ch.tn, .string R.ch.nm, .slice A R.ch.zs.length c, .int .i64 R.ch.wd, .int .i64 R.ch.lf, .int .i64 R.ch.rt, .int .i64 R.ad, .int .i64 R.at_, .int .i64 R.bd, .int .i64 R.bt, .int .i64 R.cd, .int .i64 R.ct, .int .i64 R.dd, .int .i64 R.dt, .int .i64 R.ey, .int .i64 R.bo]) rfl (by kernel_rfl) (by kernel_rfl) (by kernel_rfl) (fun _ _ _ h => h) (yieldsIf_load_blk 52 _ (w.heap.size) (fun _ h => h.2) Try.underlying52 (by kernel_rfl) (by rfl) rfl rfl) hHeld ?_
  try simp only [Act.put, List.setIfInBounds_toArray, List.set_cons_zero, List.set_cons_succ]
  refine wpAnyH_ready (rs := [2]) (by kernel_rfl) (by simp) ?_
  refine AllReadyH.cons rfl (fun K hK => ?_) AllReadyH.nil
  go_simp
  go_at_call 29; refine (toRelease_c _ _ _ hn _ HIA).mono ?_; rintro e w9 ⟨g9, rfl, hg9, hB9, hb9⟩; obtain ⟨hc9, hf9, hz9⟩ := bel hb9; (try simp only [World.size_drew, World.cell?_drew, World.frozen?_drew] at hc9 hf9 hz9); (try simp only [World.heap_drewN, World.cell?_drewN, World.frozen?_drewN] at hc9 hf9 hz9); (try have hl9 : w.heap.size < w9.heap.size := by (have hq := hb9.size; (try simp at hq); omega)); (try have hm9 : w.heap.size + 1 < w9.heap.size := by (have hq := hb9.size; (try simp at hq); omega)); (try have hn9 : w.heap.size + 1 + 1 < w9.heap.size := by (have hq := hb9.size; (try simp at hq); omega)); (try have hp9 : b < w9.heap.size := by (have hq := hb9.size; (try simp at hq); omega)); (try have ho9 : b' < w9.heap.size := by (have hq := hb9.size; (try simp at hq); omega))
  go_wp2_with fail
  refine hK.out _ _ (⟨Blk.step hb9 hHeld.1, Blk.step hb9 hHeld.2⟩) (fun hHeld => ?_)
  clear hK K
  try simp only [Act.put, List.setIfInBounds_toArray, List.set_cons_zero, List.set_cons_succ]
  have hbel9 := Bel.step hb9 hbA
  have HJ9 := Ints.step hb9 HJA
  have HK9 := hB9.ints
  clear hb9 hc9 hf9 hz9 hB9 hg9
  refine wpAnyH_ready (rs := [3]) (by kernel_rfl) (by simp) ?_
  refine AllReadyH.cons rfl (fun K hK => ?_) AllReadyH.nil
  go_simp
  go_at_call 32; refine (eqRelease_c _ _ _ _ _ hn _ HJ9 HK9).mono ?_; rintro e w10 ⟨rfl, hb10⟩; obtain ⟨hc10, hf10, hz10⟩ := bel hb10; (try simp only [World.size_drew, World.cell?_drew, World.frozen?_drew] at hc10 hf10 hz10); (try simp only [World.heap_drewN, World.cell?_drewN, World.frozen?_drewN] at hc10 hf10 hz10); (try have hl10 : w.heap.size < w10.heap.size := by (have hq := hb10.size; (try simp at hq); omega)); (try have hm10 : w.heap.size + 1 < w10.heap.size := by (have hq := hb10.size; (try simp at hq); omega)); (try have hn100 : w.heap.size + 1 + 1 < w10.heap.size := by (have hq := hb10.size; (try simp at hq); omega)); (try have hp10 : b < w10.heap.size := by (have hq := hb10.size; (try simp at hq); omega)); (try have ho10 : b' < w10.heap.size := by (have hq := hb10.size; (try simp at hq); omega))
  go_wp2_with fail
  refine hK.out _ _ (⟨Blk.step hb10 hHeld.1, Blk.step hb10 hHeld.2⟩) (fun hHeld => ?_)
  clear hK K
  try simp only [Act.put, List.setIfInBounds_toArray, List.set_cons_zero, List.set_cons_succ]
  have hbel10 := Bel.step hb10 hbel9
  clear hb10 hc10 hf10 hz10
  refine wpAnyH_take (i := 4) (v := (.bool false)) rfl (by kernel_rfl) (by kernel_rfl) (by kernel_rfl) (fun _ _ _ h => h) (Or.inl ⟨by rfl, fun w _ => by simp [go_sem, execOp]⟩) hHeld ?_
  try simp only [Act.put, List.setIfInBounds_toArray, List.set_cons_zero, List.set_cons_succ]
  refine wpAnyH_done (by kernel_rfl) ?_ _
  go_wp2
  go_ret
  exact ⟨rfl, hbel10⟩
end Go.Proofs.Ytkhcepkcdfpofaa
