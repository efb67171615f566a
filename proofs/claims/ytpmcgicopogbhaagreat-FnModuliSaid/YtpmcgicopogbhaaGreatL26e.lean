/- Chapter 26: two layouts compared. Conditions: as stated at each contract. -/
import Derived.Test.YtpmcgicopogbhaaGreatProg
import Derived.Test.YtpmcgicopogbhaaGreatBase
import Derived.Test.YtpmcgicopogbhaaGreatZy
import Derived.Test.YtpmcgicopogbhaaGreatRw
import Derived.Test.YtpmcgicopogbhaaGreatRg
import Derived.Test.YtpmcgicopogbhaaGreatL01
import Derived.Test.YtpmcgicopogbhaaGreatCp
import Derived.Test.YtpmcgicopogbhaaGreatL18
import Derived.Test.YtpmcgicopogbhaaGreatL23
import Derived.Test.YtpmcgicopogbhaaGreatL03
import Derived.Test.YtpmcgicopogbhaaGreatL04
import Derived.Test.YtpmcgicopogbhaaGreatL23d
import Derived.Test.YtpmcgicopogbhaaGreatL23e
import Derived.Test.YtpmcgicopogbhaaGreatL24
import Derived.Test.YtpmcgicopogbhaaGreatL24b
import Derived.Test.YtpmcgicopogbhaaGreatL24c
import Derived.Test.YtpmcgicopogbhaaGreatL24f
import Derived.Test.YtpmcgicopogbhaaGreatL24g
import Derived.Test.YtpmcgicopogbhaaGreatL24r
import Derived.Test.YtpmcgicopogbhaaGreatM24
import Derived.Test.YtpmcgicopogbhaaGreatM24r
import Derived.Test.YtpmcgicopogbhaaGreatL26a
import Derived.Test.YtpmcgicopogbhaaGreatL26b
import Derived.Test.YtpmcgicopogbhaaGreatL26c
import Derived.Test.YtpmcgicopogbhaaGreatL27o
import Derived.WalkKit
import Derived.WalkSpells
import Derived.WalkLawsBesides
import Derived.Lib.Hide
import Derived.Deep.QuietTactic
import Derived.BigQuiet
import Derived.Deep.Draws
import Derived.Deep.RegionHeld3
import Derived.Deep.Cut
namespace Go.Proofs.YtpmcgicopogbhaaGreat
set_option linter.unusedSimpArgs false
open Go.RowKit
set_option linter.unusedVariables false
def cmC (C K : Ch) (us vs : List (Int × Int)) (e : Int) : Int := if okCh K = true then (if lyC C us vs e = 0 then (if wC C us vs = 0 ∧ wC K us vs = 0 then 0 else 3) else lyC C us vs e) else 1
def cmV (C K : Ch) (us vs : List (Int × Int)) (e : Int) : Int := if cmC C K us vs e = 0 then cmI (wV C us vs e).1 (wV K us vs e).1 else 0
theorem lyC_1 {C : Ch} {us vs : List (Int × Int)} {e : Int} (h : okCh C = false) : lyC C us vs e = 1 := by simp [lyC, h]
theorem lyC_same {C K : Ch} {us vs : List (Int × Int)} {e : Int} (h : okCh K = true) (h1 : lyC C us vs e ≠ 1) : lyC K us vs e = lyC C us vs e := by
  unfold lyC at *
  cases hc : okCh C
  · rw [hc] at h1; exact absurd rfl h1
  · rw [h]
theorem wC_cases (C : Ch) (us vs : List (Int × Int)) : wC C us vs = 0 ∨ wC C us vs = 3 := by unfold wC; split <;> simp
theorem cm_1 {C K : Ch} {us vs : List (Int × Int)} {e : Int} (h : okCh K = false) : cmC C K us vs e = 1 ∧ cmV C K us vs e = 0 := by
  have : cmC C K us vs e = 1 := by simp [cmC, h]
  exact ⟨this, by simp [cmV, this]⟩
theorem cm_no {C K : Ch} {us vs : List (Int × Int)} {e : Int} (h : okCh K = true) (h1 : lyC C us vs e ≠ 0) : cmC C K us vs e = lyC C us vs e ∧ cmV C K us vs e = 0 := by
  have : cmC C K us vs e = lyC C us vs e := by simp [cmC, h, h1]
  exact ⟨this, by simp [cmV, this, h1]⟩
theorem cm_3 {C K : Ch} {us vs : List (Int × Int)} {e : Int} (h : okCh K = true) (h1 : lyC C us vs e = 0) (h2 : ¬ (wC C us vs = 0 ∧ wC K us vs = 0)) : cmC C K us vs e = 3 ∧ cmV C K us vs e = 0 := by
  have : cmC C K us vs e = 3 := by simp only [cmC, h, h1, if_true, if_neg h2]
  exact ⟨this, by simp [cmV, this]⟩
theorem cm_0 {C K : Ch} {us vs : List (Int × Int)} {e : Int} (h : okCh K = true) (h1 : lyC C us vs e = 0) (h2 : wC C us vs = 0) (h3 : wC K us vs = 0) : cmC C K us vs e = 0 ∧ cmV C K us vs e = cmI (wV C us vs e).1 (wV K us vs e).1 := by
  have : cmC C K us vs e = 0 := by simp [cmC, h, h1, h2, h3]
  exact ⟨this, by simp [cmV, this]⟩
set_option maxHeartbeats 2000000 in
theorem CompareLayouts_I (C : Ch) (A : Option Addr) (c : Nat) (K : Ch) (B : Option Addr) (b : Nat) (D : Option Addr) (d : Nat) (us : List (Int × Int)) (E : Option Addr) (f : Nat) (vs : List (Int × Int)) (e : Int) (hn : C.zs.length ≤ 1048576) (hm : C.nm.size ≤ 1048576) (kn : K.zs.length ≤ 1048576) (km : K.nm.size ≤ 1048576) (hu : us.length ≤ 1048576) (hv : vs.length ≤ 1048576) (w : World) (hA : Ints w A C.zs) (hB : Ints w B K.zs) (hD : Prs w D us) (hE : Prs w E vs) :
    Calls Tryz.prog 36 #[.agg #[.int .i64 C.dg, .int .i64 C.tn, .string C.nm, .slice A C.zs.length c, .int .i64 C.wd, .int .i64 C.lf, .int .i64 C.rt], .agg #[.int .i64 K.dg, .int .i64 K.tn, .string K.nm, .slice B K.zs.length b, .int .i64 K.wd, .int .i64 K.lf, .int .i64 K.rt], .slice D us.length d, .slice E vs.length f, .int .i64 e] w fun r w' => r = .returned (.tuple #[.int .i64 (cmV C K us vs e), .int .i64 (cmC C K us vs e)]) ∧ Below w.heap.size w w' := by
  go_enter Tryz.func36, Tryz.ntmps36
  go_upto_region 1 with (fail)
  have HC : Blk ((w.alloc (.cells #[.int .i64 C.dg, .int .i64 C.tn, .string C.nm, .slice A C.zs.length c, .int .i64 C.wd, .int .i64 C.lf, .int .i64 C.rt] 30)).alloc (.cells #[.int .i64 K.dg, .int .i64 K.tn, .string K.nm, .slice B K.zs.length b, .int .i64 K.wd, .int .i64 K.lf, .int .i64 K.rt] 30)) w.heap.size 30 #[.int .i64 C.dg, .int .i64 C.tn, .string C.nm, .slice A C.zs.length c, .int .i64 C.wd, .int .i64 C.lf, .int .i64 C.rt] := Blk.alloc _ (Blk.new _ _ _)
  have HK : Blk ((w.alloc (.cells #[.int .i64 C.dg, .int .i64 C.tn, .string C.nm, .slice A C.zs.length c, .int .i64 C.wd, .int .i64 C.lf, .int .i64 C.rt] 30)).alloc (.cells #[.int .i64 K.dg, .int .i64 K.tn, .string K.nm, .slice B K.zs.length b, .int .i64 K.wd, .int .i64 K.lf, .int .i64 K.rt] 30)) (w.heap.size + 1) 30 #[.int .i64 K.dg, .int .i64 K.tn, .string K.nm, .slice B K.zs.length b, .int .i64 K.wd, .int .i64 K.lf, .int .i64 K.rt] := by have h := Blk.new (w.alloc (.cells #[.int .i64 C.dg, .int .i64 C.tn, .string C.nm, .slice A C.zs.length c, .int .i64 C.wd, .int .i64 C.lf, .int .i64 C.rt] 30)) 30 #[.int .i64 K.dg, .int .i64 K.tn, .string K.nm, .slice B K.zs.length b, .int .i64 K.wd, .int .i64 K.lf, .int .i64 K.rt]; simp only [World.size_alloc] at h; exact h
  have hbel0 : Below w.heap.size w ((w.alloc (.cells #[.int .i64 C.dg, .int .i64 C.tn, .string C.nm, .slice A C.zs.length c, .int .i64 C.wd, .int .i64 C.lf, .int .i64 C.rt] 30)).alloc (.cells #[.int .i64 K.dg, .int .i64 K.tn, .string K.nm, .slice B K.zs.length b, .int .i64 K.wd, .int .i64 K.lf, .int .i64 K.rt] 30)) := by repeat (with_reducible first | exact Below.refl _ _ | assumption | refine Bel.alloc ?_ _ | refine Bel.step (by assumption) ?_ | refine Below.drew ?_ | refine Bel.drewN ?_ _ | refine Below.setCell ?_ (by first | exact Nat.le_refl _ | omega | (simp; done) | (simp; omega)) _)
  generalize (w.alloc (.cells #[.int .i64 C.dg, .int .i64 C.tn, .string C.nm, .slice A C.zs.length c, .int .i64 C.wd, .int .i64 C.lf, .int .i64 C.rt] 30)).alloc (.cells #[.int .i64 K.dg, .int .i64 K.tn, .string K.nm, .slice B K.zs.length b, .int .i64 K.wd, .int .i64 K.lf, .int .i64 K.rt] 30) = w0 at HC HK hbel0 ⊢
  have HI := Lib.hid (Ints.step hbel0 hA)
  have HJ := Lib.hid (Ints.step hbel0 hB)
  have HD := Lib.hid (Prs.step hbel0 hD)
  have HE := Lib.hid (Prs.step hbel0 hE)
  clear hA hB hD hE
  go_wp2_with (refine wpList_load_blkG 30 _ _ HK Tryz.underlying30 (by kernel_rfl) rfl rfl (by rfl) ?_)
  go_at_call 69; refine (IsChart_I _ _ _ kn km _ HJ.out).mono ?_; rintro r w1 ⟨rfl, hb1⟩
  have HC1 := Blk.step hb1 HC
  have HK1 := Blk.step hb1 HK
  have hbel1 := Bel.step hb1 hbel0
  have HI1 := Lib.hid (Ints.step hb1 HI.out)
  have HJ1 := Lib.hid (Ints.step hb1 HJ.out)
  have HD1 := Lib.hid (Prs.step hb1 HD.out)
  have HE1 := Lib.hid (Prs.step hb1 HE.out)
  clear hb1 HC HK HI HJ HD HE hbel0
  cases hk : okCh K
  · have HV := Lib.hid (cm_1 (C := C) (us := us) (vs := vs) (e := e) hk)
    clear hk
    go_wp2
    go_ret2
    exact ⟨by rw [HV.out.1, HV.out.2]; rfl, by repeat (with_reducible first | exact Below.refl _ _ | assumption | refine Bel.alloc ?_ _ | refine Bel.step (by assumption) ?_ | refine Below.drew ?_ | refine Bel.drewN ?_ _ | refine Below.setCell ?_ (by first | exact Nat.le_refl _ | omega | (simp; done) | (simp; omega)) _)⟩
  have HOK := Lib.hid hk
  clear hk
  go_wp2_with (refine wpList_load_blkG 30 _ _ HC1 Tryz.underlying30 (by kernel_rfl) rfl rfl (by rfl) ?_)
  go_at_call 42; refine (LayoutError_I _ _ _ _ _ us _ _ vs e hn hm hu hv _ HI1.out HD1.out HE1.out).mono ?_; rintro r w2 ⟨rfl, hb2⟩
  have HK2 := Blk.step hb2 HK1
  have hbel2 := Bel.step hb2 hbel1
  have HJ2 := Lib.hid (Ints.step hb2 HJ1.out)
  have HD2 := Lib.hid (Prs.step hb2 HD1.out)
  have HE2 := Lib.hid (Prs.step hb2 HE1.out)
  clear hb2 HC1 HK1 HI1 HJ1 HD1 HE1 hbel1
  by_cases hl : lyC C us vs e = 0
  rotate_left
  · have HV := Lib.hid (cm_no HOK.out hl)
    have HL := Lib.hid (le_no hl)
    have b1 : (lyC C us vs e != 0) = true := by simpa using hl
    rw [HL.out.1]
    clear hl
    go_wp2
    go_ret2
    exact ⟨by rw [HV.out.1, HV.out.2]; rfl, by repeat (with_reducible first | exact Below.refl _ _ | assumption | refine Bel.alloc ?_ _ | refine Bel.step (by assumption) ?_ | refine Below.drew ?_ | refine Bel.drewN ?_ _ | refine Below.setCell ?_ (by first | exact Nat.le_refl _ | omega | (simp; done) | (simp; omega)) _)⟩
  have HL := Lib.hid (le_0 hl)
  have HKl := Lib.hid (show lyC K us vs e = 0 by rw [lyC_same HOK.out (show lyC C us vs e ≠ 1 by omega)]; exact hl)
  have HLK := Lib.hid (le_0 HKl.out)
  have HLC := Lib.hid hl
  rw [HL.out.1, HL.out.2]
  clear hl
  rcases wC_cases C us vs with hc | hc
  rotate_left
  · have HV := Lib.hid (cm_3 (K := K) HOK.out HLC.out (by omega))
    rw [hc]
    clear hc
    go_wp2
    go_ret2
    exact ⟨by rw [HV.out.1, HV.out.2]; rfl, by repeat (with_reducible first | exact Below.refl _ _ | assumption | refine Bel.alloc ?_ _ | refine Bel.step (by assumption) ?_ | refine Below.drew ?_ | refine Bel.drewN ?_ _ | refine Below.setCell ?_ (by first | exact Nat.le_refl _ | omega | (simp; done) | (simp; omega)) _)⟩
  have HWC := Lib.hid hc
  rw [hc]
  clear hc
  go_wp2_with (refine wpList_load_blkG 30 _ _ HK2 Tryz.underlying30 (by kernel_rfl) rfl rfl (by rfl) ?_)
  go_at_call 42; refine (LayoutError_I _ _ _ _ _ us _ _ vs e kn km hu hv _ HJ2.out HD2.out HE2.out).mono ?_; rintro r w3 ⟨rfl, hb3⟩
  have hbel3 := Bel.step hb3 hbel2
  clear hb3 HK2 HJ2 HD2 HE2 hbel2
  rw [HLK.out.1, HLK.out.2]
  rcases wC_cases K us vs with hc | hc
  rotate_left
  · have HV := Lib.hid (cm_3 (C := C) HOK.out HLC.out (by omega))
    rw [hc]
    clear hc
    go_wp2
    go_ret2
    exact ⟨by rw [HV.out.1, HV.out.2]; rfl, by repeat (with_reducible first | exact Below.refl _ _ | assumption | refine Bel.alloc ?_ _ | refine Bel.step (by assumption) ?_ | refine Below.drew ?_ | refine Bel.drewN ?_ _ | refine Below.setCell ?_ (by first | exact Nat.le_refl _ | omega | (simp; done) | (simp; omega)) _)⟩
  have HV := Lib.hid (cm_0 HOK.out HLC.out HWC.out hc)
  rw [hc]
  clear hc
  generalize (wV C us vs e).1 = x at *
  generalize (wV K us vs e).1 = y at *
  go_wp2_with fail
  go_at_call 91; refine (cmpCompare_c x y _).mono ?_; rintro r w' ⟨rfl, rfl⟩
  go_wp2
  go_ret2
  exact ⟨by rw [HV.out.1, HV.out.2]; rfl, by repeat (with_reducible first | exact Below.refl _ _ | assumption | refine Bel.alloc ?_ _ | refine Bel.step (by assumption) ?_ | refine Below.drew ?_ | refine Bel.drewN ?_ _ | refine Below.setCell ?_ (by first | exact Nat.le_refl _ | omega | (simp; done) | (simp; omega)) _)⟩
set_option maxRecDepth 50000 in
set_option maxHeartbeats 2000000 in
theorem CompareLayouts_S (C : Ch) (A : Option Addr) (c : Nat) (K : Ch) (B : Option Addr) (b : Nat) (D : Option Addr) (d : Nat) (us : List (Int × Int)) (E : Option Addr) (f : Nat) (vs : List (Int × Int)) (e : Int) (hn : C.zs.length ≤ 1048576) (hm : C.nm.size ≤ 1048576) (kn : K.zs.length ≤ 1048576) (km : K.nm.size ≤ 1048576) (hu : us.length ≤ 1048576) (hv : vs.length ≤ 1048576) (w : World) (hA : Ints w A C.zs) (hB : Ints w B K.zs) (hD : Prs w D us) (hE : Prs w E vs) :
    Calls Tryz.prog 37 #[.agg #[.int .i64 C.dg, .int .i64 C.tn, .string C.nm, .slice A C.zs.length c, .int .i64 C.wd, .int .i64 C.lf, .int .i64 C.rt], .agg #[.int .i64 K.dg, .int .i64 K.tn, .string K.nm, .slice B K.zs.length b, .int .i64 K.wd, .int .i64 K.lf, .int .i64 K.rt], .slice D us.length d, .slice E vs.length f, .int .i64 e] w fun r w' => r = .returned (.tuple #[.int .i64 (cmV C K us vs e), .int .i64 (cmC C K us vs e)]) ∧ Below w.heap.size w w' := by
  go_enter Tryz.func37, Tryz.ntmps37
  go_upto_region 1 with (fail)
  have HC : Blk ((w.alloc (.cells #[.int .i64 C.dg, .int .i64 C.tn, .string C.nm, .slice A C.zs.length c, .int .i64 C.wd, .int .i64 C.lf, .int .i64 C.rt] 30)).alloc (.cells #[.int .i64 K.dg, .int .i64 K.tn, .string K.nm, .slice B K.zs.length b, .int .i64 K.wd, .int .i64 K.lf, .int .i64 K.rt] 30)) w.heap.size 30 #[.int .i64 C.dg, .int .i64 C.tn, .string C.nm, .slice A C.zs.length c, .int .i64 C.wd, .int .i64 C.lf, .int .i64 C.rt] := Blk.alloc _ (Blk.new _ _ _)
  have HK : Blk ((w.alloc (.cells #[.int .i64 C.dg, .int .i64 C.tn, .string C.nm, .slice A C.zs.length c, .int .i64 C.wd, .int .i64 C.lf, .int .i64 C.rt] 30)).alloc (.cells #[.int .i64 K.dg, .int .i64 K.tn, .string K.nm, .slice B K.zs.length b, .int .i64 K.wd, .int .i64 K.lf, .int .i64 K.rt] 30)) (w.heap.size + 1) 30 #[.int .i64 K.dg, .int .i64 K.tn, .string K.nm, .slice B K.zs.length b, .int .i64 K.wd, .int .i64 K.lf, .int .i64 K.rt] := by have h := Blk.new (w.alloc (.cells #[.int .i64 C.dg, .int .i64 C.tn, .string C.nm, .slice A C.zs.length c, .int .i64 C.wd, .int .i64 C.lf, .int .i64 C.rt] 30)) 30 #[.int .i64 K.dg, .int .i64 K.tn, .string K.nm, .slice B K.zs.length b, .int .i64 K.wd, .int .i64 K.lf, .int .i64 K.rt]; simp only [World.size_alloc] at h; exact h
  have hbel0 : Below w.heap.size w ((w.alloc (.cells #[.int .i64 C.dg, .int .i64 C.tn, .string C.nm, .slice A C.zs.length c, .int .i64 C.wd, .int .i64 C.lf, .int .i64 C.rt] 30)).alloc (.cells #[.int .i64 K.dg, .int .i64 K.tn, .string K.nm, .slice B K.zs.length b, .int .i64 K.wd, .int .i64 K.lf, .int .i64 K.rt] 30)) := by repeat (with_reducible first | exact Below.refl _ _ | assumption | refine Bel.alloc ?_ _ | refine Bel.step (by assumption) ?_ | refine Below.drew ?_ | refine Bel.drewN ?_ _ | refine Below.setCell ?_ (by first | exact Nat.le_refl _ | omega | (simp; done) | (simp; omega)) _)
  generalize (w.alloc (.cells #[.int .i64 C.dg, .int .i64 C.tn, .string C.nm, .slice A C.zs.length c, .int .i64 C.wd, .int .i64 C.lf, .int .i64 C.rt] 30)).alloc (.cells #[.int .i64 K.dg, .int .i64 K.tn, .string K.nm, .slice B K.zs.length b, .int .i64 K.wd, .int .i64 K.lf, .int .i64 K.rt] 30) = w0 at HC HK hbel0 ⊢
  refine wp_region_held_drew (S := fun W => Blk W w.heap.size 30 #[.int .i64 C.dg, .int .i64 C.tn, .string C.nm, .slice A C.zs.length c, .int .i64 C.wd, .int .i64 C.lf, .int .i64 C.rt] ∧ Blk W (w.heap.size + 1) 30 #[.int .i64 K.dg, .int .i64 K.tn, .string K.nm, .slice B K.zs.length b, .int .i64 K.wd, .int .i64 K.lf, .int .i64 K.rt]) (by kernel_rfl) (⟨Blk.drew HC, Blk.drew HK⟩) (fun hHeld => ?_)
  have hbelA : Below w.heap.size w w0.drew := Below.drew hbel0
  generalize w0.drew = wA at hbelA hHeld ⊢
  have HI := Ints.step hbelA hA
  have HJ := Ints.step hbelA hB
  have HD := Prs.step hbelA hD
  have HE := Prs.step hbelA hE
  clear hA hB hD hE HC HK hbel0
  refine wpAnyH_take (i := 0) (v := .agg #[.int .i64 C.dg, .int .i64 C.tn, .string C.nm, .slice A C.zs.length c, .int .i64 C.wd, .int .i64 C.lf, .int .i64 C.rt]) rfl (by kernel_rfl) (by kernel_rfl) (by kernel_rfl) (fun _ _ _ h => h) (yieldsIf_load_blk 30 _ (w.heap.size) (fun _ h => h.1) Tryz.underlying30 (by kernel_rfl) (by rfl) rfl rfl) hHeld ?_
  try simp only [Act.put, List.setIfInBounds_toArray, List.set_cons_zero, List.set_cons_succ]
  refine wpAnyH_take (i := 1) (v := (.slice D us.length d)) rfl (by kernel_rfl) (by kernel_rfl) (by kernel_rfl) (fun _ _ _ h => h) (Or.inl ⟨by rfl, fun w _ => by simp [go_sem, execOp]⟩) hHeld ?_
  try simp only [Act.put, List.setIfInBounds_toArray, List.set_cons_zero, List.set_cons_succ]
  refine wpAnyH_take (i := 2) (v := (.slice E vs.length f)) rfl (by kernel_rfl) (by kernel_rfl) (by kernel_rfl) (fun _ _ _ h => h) (Or.inl ⟨by rfl, fun w _ => by simp [go_sem, execOp]⟩) hHeld ?_
  try simp only [Act.put, List.setIfInBounds_toArray, List.set_cons_zero, List.set_cons_succ]
  refine wpAnyH_take (i := 3) (v := (.int .i64 e)) rfl (by kernel_rfl) (by kernel_rfl) (by kernel_rfl) (fun _ _ _ h => h) (Or.inl ⟨by rfl, fun w _ => by simp [go_sem, execOp]⟩) hHeld ?_
  try simp only [Act.put, List.setIfInBounds_toArray, List.set_cons_zero, List.set_cons_succ]
  refine wpAnyH_take (i := 5) (v := .agg #[.int .i64 K.dg, .int .i64 K.tn, .string K.nm, .slice B K.zs.length b, .int .i64 K.wd, .int .i64 K.lf, .int .i64 K.rt]) rfl (by kernel_rfl) (by kernel_rfl) (by kernel_rfl) (fun _ _ _ h => h) (yieldsIf_load_blk 30 _ (w.heap.size + 1) (fun _ h => h.2) Tryz.underlying30 (by kernel_rfl) (by rfl) rfl rfl) hHeld ?_
  try simp only [Act.put, List.setIfInBounds_toArray, List.set_cons_zero, List.set_cons_succ]
  refine wpAnyH_take (i := 6) (v := (.slice D us.length d)) rfl (by kernel_rfl) (by kernel_rfl) (by kernel_rfl) (fun _ _ _ h => h) (Or.inl ⟨by rfl, fun w _ => by simp [go_sem, execOp]⟩) hHeld ?_
  try simp only [Act.put, List.setIfInBounds_toArray, List.set_cons_zero, List.set_cons_succ]
  refine wpAnyH_take (i := 7) (v := (.slice E vs.length f)) rfl (by kernel_rfl) (by kernel_rfl) (by kernel_rfl) (fun _ _ _ h => h) (Or.inl ⟨by rfl, fun w _ => by simp [go_sem, execOp]⟩) hHeld ?_
  try simp only [Act.put, List.setIfInBounds_toArray, List.set_cons_zero, List.set_cons_succ]
  refine wpAnyH_take (i := 8) (v := (.int .i64 e)) rfl (by kernel_rfl) (by kernel_rfl) (by kernel_rfl) (fun _ _ _ h => h) (Or.inl ⟨by rfl, fun w _ => by simp [go_sem, execOp]⟩) hHeld ?_
  try simp only [Act.put, List.setIfInBounds_toArray, List.set_cons_zero, List.set_cons_succ]
  refine wpAnyH_ready (rs := [4]) (by kernel_rfl) (by simp) ?_
  refine AllReadyH.cons rfl (fun K hK => ?_) AllReadyH.nil
  go_simp
  go_at_call 86; refine (l26Code_c _ _ _ _ _ us _ _ vs e hn hm hu hv _ HI HD HE).mono ?_; rintro e w1 ⟨rfl, hb1⟩; obtain ⟨hc1, hf1, hz1⟩ := bel hb1; (try simp only [World.size_drew, World.cell?_drew, World.frozen?_drew, World.heap_drewN, World.cell?_drewN, World.frozen?_drewN] at hc1 hf1 hz1); (try have hl1 : w.heap.size < w1.heap.size := zl hb1); (try have hm1 : w.heap.size + 1 < w1.heap.size := zl hb1); (try have hn1 : w.heap.size + 1 + 1 < w1.heap.size := zl hb1); (try have hp1 : b < w1.heap.size := zl hb1); (try have ho1 : b' < w1.heap.size := by (have hq := hb1.size; (try simp at hq); omega))
  go_wp2_with fail
  refine hK.out _ _ (⟨Blk.step hb1 hHeld.1, Blk.step hb1 hHeld.2⟩) (fun hHeld => ?_)
  clear hK K
  try simp only [Act.put, List.setIfInBounds_toArray, List.set_cons_zero, List.set_cons_succ]
  have hbel1 := Bel.step hb1 hbelA
  have HI1 := Ints.step hb1 HI
  have HJ1 := Ints.step hb1 HJ
  have HD1 := Prs.step hb1 HD
  have HE1 := Prs.step hb1 HE
  clear hb1 hc1 hf1 hz1 HI HJ HD HE hbelA
  refine wpAnyH_ready (rs := [9]) (by kernel_rfl) (by simp) ?_
  refine AllReadyH.cons rfl (fun K hK => ?_) AllReadyH.nil
  go_simp
  go_at_call 86; refine (l26Code_c _ _ _ _ _ us _ _ vs e kn km hu hv _ HJ1 HD1 HE1).mono ?_; rintro e w2 ⟨rfl, hb2⟩; obtain ⟨hc2, hf2, hz2⟩ := bel hb2; (try simp only [World.size_drew, World.cell?_drew, World.frozen?_drew, World.heap_drewN, World.cell?_drewN, World.frozen?_drewN] at hc2 hf2 hz2); (try have hl2 : w.heap.size < w2.heap.size := zl hb2); (try have hm2 : w.heap.size + 1 < w2.heap.size := zl hb2); (try have hn2 : w.heap.size + 1 + 1 < w2.heap.size := zl hb2); (try have hp2 : b < w2.heap.size := zl hb2); (try have ho2 : b' < w2.heap.size := by (have hq := hb2.size; (try simp at hq); omega))
  go_wp2_with fail
  refine hK.out _ _ (⟨Blk.step hb2 hHeld.1, Blk.step hb2 hHeld.2⟩) (fun hHeld => ?_)
  clear hK K
  try simp only [Act.put, List.setIfInBounds_toArray, List.set_cons_zero, List.set_cons_succ]
  have hbel2 := Bel.step hb2 hbel1
  have HI2 := Lib.hid (Ints.step hb2 HI1)
  have HJ2 := Lib.hid (Ints.step hb2 HJ1)
  have HD2 := Lib.hid (Prs.step hb2 HD1)
  have HE2 := Lib.hid (Prs.step hb2 HE1)
  clear hb2 hc2 hf2 hz2 HI1 HJ1 HD1 HE1 hbel1
  refine wpAnyH_take (i := 10) (v := (.int .i64 (lyC C us vs e))) rfl (by kernel_rfl) (by kernel_rfl) (by kernel_rfl) (fun _ _ _ h => h) (Or.inl ⟨by rfl, fun w _ => by simp [go_sem, execOp]⟩) hHeld ?_
  try simp only [Act.put, List.setIfInBounds_toArray, List.set_cons_zero, List.set_cons_succ]
  refine wpAnyH_take (i := 11) (v := (.int .i64 (lyC K us vs e))) rfl (by kernel_rfl) (by kernel_rfl) (by kernel_rfl) (fun _ _ _ h => h) (Or.inl ⟨by rfl, fun w _ => by simp [go_sem, execOp]⟩) hHeld ?_
  try simp only [Act.put, List.setIfInBounds_toArray, List.set_cons_zero, List.set_cons_succ]
  refine wpAnyH_done (by kernel_rfl) ?_ _
  obtain ⟨HC2, HK2⟩ := hHeld
  cases hk : okCh K
  · have HV := Lib.hid (cm_1 (C := C) (us := us) (vs := vs) (e := e) hk)
    have H1 := Lib.hid (lyC_1 (us := us) (vs := vs) (e := e) hk)
    rw [H1.out]
    clear hk
    by_cases hl : lyC C us vs e = 1
    · rw [hl]
      clear hl
      go_wp2
      go_ret2
      exact ⟨by rw [HV.out.1, HV.out.2]; rfl, by repeat (with_reducible first | exact Below.refl _ _ | assumption | refine Bel.alloc ?_ _ | refine Bel.step (by assumption) ?_ | refine Below.drew ?_ | refine Bel.drewN ?_ _ | refine Below.setCell ?_ (by first | exact Nat.le_refl _ | omega | (simp; done) | (simp; omega)) _)⟩
    · have b1 : (lyC C us vs e == 1) = false := by simpa using hl
      clear hl
      go_wp2
      go_ret2
      exact ⟨by rw [HV.out.1, HV.out.2]; rfl, by repeat (with_reducible first | exact Below.refl _ _ | assumption | refine Bel.alloc ?_ _ | refine Bel.step (by assumption) ?_ | refine Below.drew ?_ | refine Bel.drewN ?_ _ | refine Below.setCell ?_ (by first | exact Nat.le_refl _ | omega | (simp; done) | (simp; omega)) _)⟩
  have HOK := Lib.hid hk
  clear hk
  by_cases hl : lyC C us vs e = 0
  rotate_left
  · have HV := Lib.hid (cm_no HOK.out hl)
    by_cases h1 : lyC C us vs e = 1
    · rw [h1] at HV ⊢
      clear h1 hl
      go_wp2
      go_ret2
      exact ⟨by rw [HV.out.1, HV.out.2]; rfl, by repeat (with_reducible first | exact Below.refl _ _ | assumption | refine Bel.alloc ?_ _ | refine Bel.step (by assumption) ?_ | refine Below.drew ?_ | refine Bel.drewN ?_ _ | refine Below.setCell ?_ (by first | exact Nat.le_refl _ | omega | (simp; done) | (simp; omega)) _)⟩
    · have HS := Lib.hid (lyC_same (e := e) HOK.out h1)
      rw [HS.out]
      have b1 : (lyC C us vs e == 1) = false := by simpa using h1
      have b2 : (lyC C us vs e != 0) = true := by simpa using hl
      clear hl h1
      go_wp2
      go_ret2
      exact ⟨by rw [HV.out.1, HV.out.2]; rfl, by repeat (with_reducible first | exact Below.refl _ _ | assumption | refine Bel.alloc ?_ _ | refine Bel.step (by assumption) ?_ | refine Below.drew ?_ | refine Bel.drewN ?_ _ | refine Below.setCell ?_ (by first | exact Nat.le_refl _ | omega | (simp; done) | (simp; omega)) _)⟩
  have HKl := Lib.hid (show lyC K us vs e = 0 by rw [lyC_same HOK.out (show lyC C us vs e ≠ 1 by omega)]; exact hl)
  have HLC := Lib.hid hl
  have HY := Lib.hid (lyC_0 hl)
  rw [hl, HKl.out]
  clear hl
  go_wp2_with (refine wpList_load_blkG 30 _ _ HC2 Tryz.underlying30 (by kernel_rfl) rfl rfl (by rfl) ?_)
  go_at_call 88; refine (l26Worst_c _ _ _ _ _ us _ _ vs e hn hm HY.out.1 HY.out.2.1 HY.out.2.2.1 HY.out.2.2.2.1.2 HY.out.2.2.2.2.1.2 HY.out.2.2.2.2.2.1 HY.out.2.2.2.2.2.2 _ HI2.out HD2.out HE2.out).mono ?_; rintro r w3 ⟨rfl, hb3⟩
  have HK3 := Blk.step hb3 HK2
  have hbel3 := Bel.step hb3 hbel2
  have HJ3 := Lib.hid (Ints.step hb3 HJ2.out)
  have HD3 := Lib.hid (Prs.step hb3 HD2.out)
  have HE3 := Lib.hid (Prs.step hb3 HE2.out)
  clear hb3 HC2 HK2 HI2 HJ2 HD2 HE2 hbel2
  go_wp2_with (refine wpList_load_blkG 30 _ _ HK3 Tryz.underlying30 (by kernel_rfl) rfl rfl (by rfl) ?_)
  go_at_call 88; refine (l26Worst_c _ _ _ _ _ us _ _ vs e kn km HOK.out HY.out.2.1 HY.out.2.2.1 HY.out.2.2.2.1.2 HY.out.2.2.2.2.1.2 HY.out.2.2.2.2.2.1 HY.out.2.2.2.2.2.2 _ HJ3.out HD3.out HE3.out).mono ?_; rintro r w4 ⟨rfl, hb4⟩
  have hbel4 := Bel.step hb4 hbel3
  clear hb4 HK3 HJ3 HD3 HE3 hbel3
  rcases wC_cases C us vs with hc | hc
  rotate_left
  · have HV := Lib.hid (cm_3 (K := K) HOK.out HLC.out (by omega))
    rw [hc]
    clear hc
    go_wp2
    go_ret2
    exact ⟨by rw [HV.out.1, HV.out.2]; rfl, by repeat (with_reducible first | exact Below.refl _ _ | assumption | refine Bel.alloc ?_ _ | refine Bel.step (by assumption) ?_ | refine Below.drew ?_ | refine Bel.drewN ?_ _ | refine Below.setCell ?_ (by first | exact Nat.le_refl _ | omega | (simp; done) | (simp; omega)) _)⟩
  have HWC := Lib.hid hc
  rw [hc]
  clear hc
  rcases wC_cases K us vs with hc | hc
  rotate_left
  · have HV := Lib.hid (cm_3 (C := C) HOK.out HLC.out (by omega))
    rw [hc]
    clear hc
    go_wp2
    go_ret2
    exact ⟨by rw [HV.out.1, HV.out.2]; rfl, by repeat (with_reducible first | exact Below.refl _ _ | assumption | refine Bel.alloc ?_ _ | refine Bel.step (by assumption) ?_ | refine Below.drew ?_ | refine Bel.drewN ?_ _ | refine Below.setCell ?_ (by first | exact Nat.le_refl _ | omega | (simp; done) | (simp; omega)) _)⟩
  have HV := Lib.hid (cm_0 HOK.out HLC.out HWC.out hc)
  rw [hc]
  clear hc
  generalize (wV C us vs e).1 = x at *
  generalize (wV K us vs e).1 = y at *
  rcases Int.lt_trichotomy x y with h | h | h
  · have HX := Lib.hid (show cmI x y = -1 by simp [cmI, h])
    go_wp2
    go_ret2
    exact ⟨by rw [HV.out.1, HV.out.2, HX.out]; rfl, by repeat (with_reducible first | exact Below.refl _ _ | assumption | refine Bel.alloc ?_ _ | refine Bel.step (by assumption) ?_ | refine Below.drew ?_ | refine Bel.drewN ?_ _ | refine Below.setCell ?_ (by first | exact Nat.le_refl _ | omega | (simp; done) | (simp; omega)) _)⟩
  · have HX := Lib.hid (show cmI x y = 0 by simp [cmI, h])
    have h1 : ¬ x < y := by omega
    have h2 : ¬ y < x := by omega
    clear h
    go_wp2
    go_ret2
    exact ⟨by rw [HV.out.1, HV.out.2, HX.out]; rfl, by repeat (with_reducible first | exact Below.refl _ _ | assumption | refine Bel.alloc ?_ _ | refine Bel.step (by assumption) ?_ | refine Below.drew ?_ | refine Bel.drewN ?_ _ | refine Below.setCell ?_ (by first | exact Nat.le_refl _ | omega | (simp; done) | (simp; omega)) _)⟩
  · have h1 : ¬ x < y := by omega
    have HX := Lib.hid (show cmI x y = 1 by simp [cmI, h, h1])
    go_wp2
    go_ret2
    exact ⟨by rw [HV.out.1, HV.out.2, HX.out]; rfl, by repeat (with_reducible first | exact Below.refl _ _ | assumption | refine Bel.alloc ?_ _ | refine Bel.step (by assumption) ?_ | refine Below.drew ?_ | refine Bel.drewN ?_ _ | refine Below.setCell ?_ (by first | exact Nat.le_refl _ | omega | (simp; done) | (simp; omega)) _)⟩
end Go.Proofs.YtpmcgicopogbhaaGreat
