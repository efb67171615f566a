/- The statement FnModuli, walked. No conditions. -/
import Derived.Test.YtpmcgicopogbhaaGreatProg
import Derived.Test.YtpmcgicopogbhaaGreatBase
import Derived.Test.YtpmcgicopogbhaaGreatZz
import Derived.Test.YtpmcgicopogbhaaGreatRw
import Derived.Test.YtpmcgicopogbhaaGreatRg
import Derived.Test.YtpmcgicopogbhaaGreatL01
import Derived.Test.YtpmcgicopogbhaaGreatCp
import Derived.Test.YtpmcgicopogbhaaGreatCm
import Derived.Test.YtpmcgicopogbhaaGreatL18
import Derived.Test.YtpmcgicopogbhaaGreatL23
import Derived.Test.YtpmcgicopogbhaaGreatL23b
import Derived.Test.YtpmcgicopogbhaaGreatL23c
import Derived.Test.YtpmcgicopogbhaaGreatL03
import Derived.Test.YtpmcgicopogbhaaGreatL04
import Derived.Test.YtpmcgicopogbhaaGreatL23d
import Derived.Test.YtpmcgicopogbhaaGreatL23e
import Derived.Test.YtpmcgicopogbhaaGreatL24
import Derived.Test.YtpmcgicopogbhaaGreatL24r
import Derived.Test.YtpmcgicopogbhaaGreatL23g
import Derived.Test.YtpmcgicopogbhaaGreatL23h
import Derived.Test.YtpmcgicopogbhaaGreatL23i
import Derived.Test.YtpmcgicopogbhaaGreatL26a
import Derived.Test.YtpmcgicopogbhaaGreatL26b
import Derived.Test.YtpmcgicopogbhaaGreatL26c
import Derived.Test.YtpmcgicopogbhaaGreatL26e
import Derived.Test.YtpmcgicopogbhaaGreatL26g
import Derived.Test.YtpmcgicopogbhaaGreatL26h
import Derived.Test.YtpmcgicopogbhaaGreatL26j
import Derived.Test.YtpmcgicopogbhaaGreatL26k
import Derived.Test.YtpmcgicopogbhaaGreatL26l
import Derived.Test.YtpmcgicopogbhaaGreatP26m
import Derived.Test.YtpmcgicopogbhaaGreatD00
import Derived.Test.YtpmcgicopogbhaaGreatD01
import Derived.Test.YtpmcgicopogbhaaGreatD26m
import Derived.Test.YtpmcgicopogbhaaGreatDc
import Derived.Test.YtpmcgicopogbhaaGreatE24
import Derived.Test.YtpmcgicopogbhaaGreatE25
import Derived.WalkKit
import Derived.WalkSpells
import Derived.WalkLawsBesides
import Derived.Lib.Hide
import Derived.Deep.QuietTactic
import Derived.BigQuiet
import Derived.Deep.Draws
import Derived.Deep.RegionHeld3
import Derived.Deep.Cut
import Derived.Deep.WholeRow
namespace Go.Proofs.YtpmcgicopogbhaaGreat
open Go.RowKit
set_option linter.unusedVariables false
set_option linter.unusedSimpArgs false
structure BoxM (P : Prop) : Prop where
  out : P
theorem cut_M {G : Prop} (P : Prop) (k : BoxM P → G) (h : P) : G := k ⟨h⟩
theorem Byts.alloc {w : World} {A : Option Addr} {zs : List Int} (o : Obj) (h : Byts w A zs) : Byts (w.alloc o) A zs := Byts.step (Bel.alloc (Below.refl _ _) o) h
theorem own_btwM {w : World} {B : Nat} {T : TypeId} {v : Value} {zs : List Int} (h : Own w B T v zs) {b : Nat} (hb : b < B ∨ w.heap.size ≤ b) : v.ownBlock ≠ some b := by
  intro e
  have := h.lt b e
  omega
theorem grown_setRowM (w : World) (g : Nat) (cs : Array Value) : w.grownBy (w.setRow g cs) (some g) :=
  ⟨rfl, rfl, rfl, by simp [World.setRow], fun i _ hne => setRow_other w g i cs (fun e => hne (congrArg some e))⟩
theorem step_store_blkM {P : Program} {w : World} {ops : Array Oper} {o : Oper} {a : Act} {K : Act → World → Prop} {Q : Exit → Act → World → Prop} {E : Prop} (ty : TypeId) (x y : Operand) (g : Nat) {cs old : Array Value} {t : TypeId} (hB : Blk w g t old)
    (hi : (P.info? ty).map (·.size) = some cs.size) (hold : old.size = cs.size) (h1 : cs.all (·.oneCell') = true) (hgd : o.guard = none) (hd : o.dst = none) (ho : o.op = .store ty x y) (hx : a.eval x = .pointer (some ⟨g, 0, none⟩)) (hy : a.eval y = .agg cs)
    (h : K a (w.setRow g cs)) : if Region.wanted o (yielded ops a.tmps) = true then Oper.wp P o a w K Q else E := by
  have hw : Region.wanted o (yielded ops a.tmps) = true := by simp [Region.wanted, hgd]
  rw [if_pos hw]
  exact wp_store_row ty x y ho g cs hx hy t old hB hi hold h1 (by rw [hd]; exact h)
set_option maxRecDepth 50000 in
set_option maxHeartbeats 64000000 in
theorem FnModuli_w (w : World) (A : Option Addr) (c : Nat) (zs : List Int) (hl : zs.length ≤ 9223372036854775807) (hA : Byts w A zs) :
    Calls Tryz.prog 4 #[.slice A zs.length c] w fun e w' => e = .returned (.bool true) ∧ Below w.heap.size w w' := by
  have HB := Lib.hid (Below.refl w.heap.size w)
  by_cases hz : zs.length ≤ 4096
  rotate_left
  · go_enter Tryz.func4, Tryz.ntmps4
    go_wp2_with fail
    go_at_call 5; refine (big_yes A c zs.length (by omega) _).mono ?_; rintro e w' ⟨rfl, rfl⟩
    go_wp2
    go_ret
    exact ⟨rfl, HB.out⟩
  have HA := Lib.hid hA
  clear hA hl
  go_enter Tryz.func4, Tryz.ntmps4
  go_wp2_with fail
  go_at_call 5; refine (big_no A c zs.length hz _).mono ?_; rintro e w' ⟨rfl, rfl⟩
  go_wp2_with fail
  go_at_call 26; refine (DrawBestModuli_c A c zs hz _ HA.out).mono ?_; rintro e w1 ⟨C, g, q, ms, gm, cm, us, vs, G, H, cu, cv, ey, mo, rfl, ⟨hn0, hm0, hx0, hu0, hv0⟩, hI, hM, hU, hV, hb1⟩; have hka := zba HB hb1; (try replace HA := yY hb1 hka HA); replace HB := Lib.hid (Bel.step hb1 (Bel.step hka HB.out)); have hsz1 := hb1.size; have hsy1 := hka.size; (try simp only [World.size_alloc, World.size_drew, World.heap_drewN, World.size_setCell] at hsz1 hsy1); clear hka hb1
  clear hsz1 hsy1
  have hn : C.zs.length ≤ 1048576 := by omega
  have hm : C.nm.size ≤ 1048576 := by omega
  have hx : ms.length ≤ 1048576 := by omega
  have hu : us.length ≤ 1048576 := by omega
  have hv : vs.length ≤ 1048576 := by omega
  clear hn0 hm0 hx0 hu0 hv0
  have HI := Lib.hid hI
  clear hI
  have HM := Lib.hid hM
  clear hM
  have HU := Lib.hid hU
  clear hU
  have HV := Lib.hid hV
  clear hV
  go_upto_region 4 with (refine wpList_store_blk (cs := #[.int .i64 C.dg, .int .i64 C.tn, .string C.nm, .slice (some ⟨g, 0, none⟩) C.zs.length q, .int .i64 C.wd, .int .i64 C.lf, .int .i64 C.rt]) 30 _ _ _ (Blk.new _ _ _) (by kernel_rfl) rfl (by simp [Value.oneCell']) rfl rfl rfl rfl ?_)
  rw [World.setRow_alloc_new]
  have HR := Lib.hid (by have h := Blk.new w1 30 #[.int .i64 C.dg, .int .i64 C.tn, .string C.nm, .slice (some ⟨g, 0, none⟩) C.zs.length q, .int .i64 C.wd, .int .i64 C.lf, .int .i64 C.rt]; (try simp only [World.size_alloc] at h); exact h)
  replace HA := Lib.hid (Byts.alloc (.cells #[.int .i64 C.dg, .int .i64 C.tn, .string C.nm, .slice (some ⟨g, 0, none⟩) C.zs.length q, .int .i64 C.wd, .int .i64 C.lf, .int .i64 C.rt] 30) HA.out)
  replace HI := Lib.hid (Ints.alloc (.cells #[.int .i64 C.dg, .int .i64 C.tn, .string C.nm, .slice (some ⟨g, 0, none⟩) C.zs.length q, .int .i64 C.wd, .int .i64 C.lf, .int .i64 C.rt] 30) HI.out)
  replace HM := Lib.hid (Ints.alloc (.cells #[.int .i64 C.dg, .int .i64 C.tn, .string C.nm, .slice (some ⟨g, 0, none⟩) C.zs.length q, .int .i64 C.wd, .int .i64 C.lf, .int .i64 C.rt] 30) HM.out)
  replace HU := Lib.hid (Prs.alloc (.cells #[.int .i64 C.dg, .int .i64 C.tn, .string C.nm, .slice (some ⟨g, 0, none⟩) C.zs.length q, .int .i64 C.wd, .int .i64 C.lf, .int .i64 C.rt] 30) HU.out)
  replace HV := Lib.hid (Prs.alloc (.cells #[.int .i64 C.dg, .int .i64 C.tn, .string C.nm, .slice (some ⟨g, 0, none⟩) C.zs.length q, .int .i64 C.wd, .int .i64 C.lf, .int .i64 C.rt] 30) HV.out)
  replace HB := Lib.hid (Bel.alloc HB.out (.cells #[.int .i64 C.dg, .int .i64 C.tn, .string C.nm, .slice (some ⟨g, 0, none⟩) C.zs.length q, .int .i64 C.wd, .int .i64 C.lf, .int .i64 C.rt] 30))
  go_wp2_with (first | (refine wpList_load_blkG 30 _ _ (Blk.step (zb0 HB) HR.out) Tryz.underlying30 (by kernel_rfl) rfl rfl (by rfl) ?_))
  go_at_call 27; refine (BestModuli_I C (some ⟨g, 0, none⟩) q (some ⟨gm, 0, none⟩) cm ms G cu us H cv vs ey mo hn hm hx hu hv _ (by repeat (with_reducible first | exact HI.out | assumption | refine Ints.drew ?_ | refine Ints.drewN _ ?_ | refine Ints.alloc _ ?_ | refine Ints.step (by assumption) ?_)) (by repeat (with_reducible first | exact HM.out | assumption | refine Ints.drew ?_ | refine Ints.drewN _ ?_ | refine Ints.alloc _ ?_ | refine Ints.step (by assumption) ?_)) (by repeat (with_reducible first | exact HU.out | assumption | refine Prs.drew ?_ | refine Prs.drewN _ ?_ | refine Prs.alloc _ ?_ | refine Prs.step (by assumption) ?_)) (by repeat (with_reducible first | exact HV.out | assumption | refine Prs.drew ?_ | refine Prs.drewN _ ?_ | refine Prs.alloc _ ?_ | refine Prs.step (by assumption) ?_))).mono ?_; rintro e w2 ⟨rfl, hb2⟩; have hka := zba HB hb2; (try replace HA := yY hb2 hka HA); (try replace HI := yI hb2 hka HI); (try replace HM := yI hb2 hka HM); (try replace HU := yR hb2 hka HU); (try replace HV := yR hb2 hka HV); (try replace HR := yB hb2 hka HR); replace HB := Lib.hid (Bel.step hb2 (Bel.step hka HB.out)); have hsz2 := hb2.size; have hsy2 := hka.size; (try simp only [World.size_alloc, World.size_drew, World.heap_drewN, World.size_setCell] at hsz2 hsy2); clear hka hb2
  clear hsz2 hsy2
  try generalize Value.agg #[.int .i64 C.dg, .int .i64 C.tn, .string C.nm, .slice (some ⟨g, 0, none⟩) C.zs.length q, .int .i64 C.wd, .int .i64 C.lf, .int .i64 C.rt] = vv1
  have hbe := fun h => bm_best2 (C := C) (us := us) (vs := vs) (e := ey) (most := mo) (ms := ms) h
  obtain ⟨v1, hv1⟩ : ∃ k, k = (bmV C us vs ey mo ms).1 := ⟨_, rfl⟩
  obtain ⟨v2, hv2⟩ : ∃ k, k = (bmV C us vs ey mo ms).2 := ⟨_, rfl⟩
  obtain ⟨kb, hkb⟩ : ∃ k, k = bmC C us vs ey mo ms := ⟨_, rfl⟩
  rw [← hv1, ← hv2, ← hkb] at hbe ⊢
  have HBV := Lib.hid (And.intro hv1 (And.intro hv2 hkb))
  clear hv1 hv2 hkb
  have HBE := Lib.hid hbe
  clear hbe
  go_wp2_with (first | (refine wpList_load_blkG 30 _ _ (Blk.step (zb0 HB) HR.out) Tryz.underlying30 (by kernel_rfl) rfl rfl (by rfl) ?_))
  go_at_call 28; refine (BestModuli_S C (some ⟨g, 0, none⟩) q (some ⟨gm, 0, none⟩) cm ms G cu us H cv vs ey mo hn hm hx hu hv _ (by repeat (with_reducible first | exact HI.out | assumption | refine Ints.drew ?_ | refine Ints.drewN _ ?_ | refine Ints.alloc _ ?_ | refine Ints.step (by assumption) ?_)) (by repeat (with_reducible first | exact HM.out | assumption | refine Ints.drew ?_ | refine Ints.drewN _ ?_ | refine Ints.alloc _ ?_ | refine Ints.step (by assumption) ?_)) (by repeat (with_reducible first | exact HU.out | assumption | refine Prs.drew ?_ | refine Prs.drewN _ ?_ | refine Prs.alloc _ ?_ | refine Prs.step (by assumption) ?_)) (by repeat (with_reducible first | exact HV.out | assumption | refine Prs.drew ?_ | refine Prs.drewN _ ?_ | refine Prs.alloc _ ?_ | refine Prs.step (by assumption) ?_))).mono ?_; rintro e w3 ⟨rfl, hb3⟩; have hka := zba HB hb3; (try replace HA := yY hb3 hka HA); (try replace HI := yI hb3 hka HI); (try replace HM := yI hb3 hka HM); (try replace HU := yR hb3 hka HU); (try replace HV := yR hb3 hka HV); (try replace HR := yB hb3 hka HR); replace HB := Lib.hid (Bel.step hb3 (Bel.step hka HB.out)); have hsz3 := hb3.size; have hsy3 := hka.size; (try simp only [World.size_alloc, World.size_drew, World.heap_drewN, World.size_setCell] at hsz3 hsy3); clear hka hb3
  clear hsz3 hsy3
  try generalize Value.agg #[.int .i64 C.dg, .int .i64 C.tn, .string C.nm, .slice (some ⟨g, 0, none⟩) C.zs.length q, .int .i64 C.wd, .int .i64 C.lf, .int .i64 C.rt] = vv2
  rw [← HBV.out.1, ← HBV.out.2.1, ← HBV.out.2.2]
  clear HBV
  go_wp2_with fail
  go_at_call 29; refine (DrawWithModuli_c A c zs hz _ HA.out).mono ?_; rintro e w4 ⟨D, gd, qd, x, y, rfl, hn0, hm0, hO4, hb4⟩; have hka := zba HB hb4; (try replace HA := yY hb4 hka HA); (try replace HI := yI hb4 hka HI); (try replace HM := yI hb4 hka HM); (try replace HU := yR hb4 hka HU); (try replace HV := yR hb4 hka HV); (try replace HR := yB hb4 hka HR); replace HB := Lib.hid (Bel.step hb4 (Bel.step hka HB.out)); have hsz4 := hb4.size; have hsy4 := hka.size; (try simp only [World.size_alloc, World.size_drew, World.heap_drewN, World.size_setCell] at hsz4 hsy4); clear hka hb4
  clear hsz4 hsy4
  have HID := Lib.hid hO4.ints
  clear hO4
  have hDn : D.zs.length ≤ 1048576 := by omega
  have hDm : D.nm.size ≤ 1048576 := by omega
  clear hn0 hm0
  go_upto_region 7 with (refine wpList_store_blk (cs := #[.int .i64 D.dg, .int .i64 D.tn, .string D.nm, .slice (some ⟨gd, 0, none⟩) D.zs.length qd, .int .i64 D.wd, .int .i64 D.lf, .int .i64 D.rt]) 30 _ _ _ (Blk.new _ _ _) (by kernel_rfl) rfl (by simp [Value.oneCell']) rfl rfl rfl rfl ?_)
  rw [World.setRow_alloc_new]
  have HD := Lib.hid (by have h := Blk.new w4 30 #[.int .i64 D.dg, .int .i64 D.tn, .string D.nm, .slice (some ⟨gd, 0, none⟩) D.zs.length qd, .int .i64 D.wd, .int .i64 D.lf, .int .i64 D.rt]; (try simp only [World.size_alloc] at h); exact h)
  replace HA := Lib.hid (Byts.alloc (.cells #[.int .i64 D.dg, .int .i64 D.tn, .string D.nm, .slice (some ⟨gd, 0, none⟩) D.zs.length qd, .int .i64 D.wd, .int .i64 D.lf, .int .i64 D.rt] 30) HA.out)
  replace HI := Lib.hid (Ints.alloc (.cells #[.int .i64 D.dg, .int .i64 D.tn, .string D.nm, .slice (some ⟨gd, 0, none⟩) D.zs.length qd, .int .i64 D.wd, .int .i64 D.lf, .int .i64 D.rt] 30) HI.out)
  replace HM := Lib.hid (Ints.alloc (.cells #[.int .i64 D.dg, .int .i64 D.tn, .string D.nm, .slice (some ⟨gd, 0, none⟩) D.zs.length qd, .int .i64 D.wd, .int .i64 D.lf, .int .i64 D.rt] 30) HM.out)
  replace HU := Lib.hid (Prs.alloc (.cells #[.int .i64 D.dg, .int .i64 D.tn, .string D.nm, .slice (some ⟨gd, 0, none⟩) D.zs.length qd, .int .i64 D.wd, .int .i64 D.lf, .int .i64 D.rt] 30) HU.out)
  replace HV := Lib.hid (Prs.alloc (.cells #[.int .i64 D.dg, .int .i64 D.tn, .string D.nm, .slice (some ⟨gd, 0, none⟩) D.zs.length qd, .int .i64 D.wd, .int .i64 D.lf, .int .i64 D.rt] 30) HV.out)
  replace HR := Lib.hid (Blk.alloc (.cells #[.int .i64 D.dg, .int .i64 D.tn, .string D.nm, .slice (some ⟨gd, 0, none⟩) D.zs.length qd, .int .i64 D.wd, .int .i64 D.lf, .int .i64 D.rt] 30) HR.out)
  replace HID := Lib.hid (Ints.alloc (.cells #[.int .i64 D.dg, .int .i64 D.tn, .string D.nm, .slice (some ⟨gd, 0, none⟩) D.zs.length qd, .int .i64 D.wd, .int .i64 D.lf, .int .i64 D.rt] 30) HID.out)
  replace HB := Lib.hid (Bel.alloc HB.out (.cells #[.int .i64 D.dg, .int .i64 D.tn, .string D.nm, .slice (some ⟨gd, 0, none⟩) D.zs.length qd, .int .i64 D.wd, .int .i64 D.lf, .int .i64 D.rt] 30))
  go_wp2_with (first | (refine wpList_load_blkG 30 _ _ (Blk.step (zb0 HB) HD.out) Tryz.underlying30 (by kernel_rfl) rfl rfl (by rfl) ?_))
  go_at_call 30; refine (WithModuli_I D (some ⟨gd, 0, none⟩) qd x y hDn hDm _ (by repeat (with_reducible first | exact HID.out | assumption | refine Ints.drew ?_ | refine Ints.drewN _ ?_ | refine Ints.alloc _ ?_ | refine Ints.step (by assumption) ?_))).mono ?_; rintro e w5 ⟨A5, c5, rfl, hO5, hb5⟩; have hka := zba HB hb5; (try replace HA := yY hb5 hka HA); (try replace HI := yI hb5 hka HI); (try replace HM := yI hb5 hka HM); (try replace HU := yR hb5 hka HU); (try replace HV := yR hb5 hka HV); (try replace HR := yB hb5 hka HR); (try replace HID := yI hb5 hka HID); (try replace HD := yB hb5 hka HD); replace HB := Lib.hid (Bel.step hb5 (Bel.step hka HB.out)); have hsz5 := hb5.size; have hsy5 := hka.size; (try simp only [World.size_alloc, World.size_drew, World.heap_drewN, World.size_setCell] at hsz5 hsy5); clear hka hb5
  clear hsz5 hsy5
  try generalize Value.agg #[.int .i64 D.dg, .int .i64 D.tn, .string D.nm, .slice (some ⟨gd, 0, none⟩) D.zs.length qd, .int .i64 D.wd, .int .i64 D.lf, .int .i64 D.rt] = vv3
  have hEn : (wmV D x y).zs.length ≤ 1048576 := by
    unfold wmV
    split
    · exact hDn
    · exact Nat.zero_le _
  obtain ⟨E, hE⟩ : ∃ Z, Z = wmV D x y := ⟨_, rfl⟩
  obtain ⟨kx, hkx⟩ : ∃ k, k = wmC D x y := ⟨_, rfl⟩
  rw [← hE] at hEn hO5
  rw [← hE, ← hkx]
  have HEE := Lib.hid (And.intro hE hkx)
  clear hE hkx
  have HI5 := Lib.hid hO5.ints
  clear hO5
  go_upto_region 8 with (refine wpList_store_blk (cs := #[.int .i64 E.dg, .int .i64 E.tn, .string E.nm, .slice A5 E.zs.length c5, .int .i64 E.wd, .int .i64 E.lf, .int .i64 E.rt]) 30 _ _ _ (Blk.new _ _ _) (by kernel_rfl) rfl (by simp [Value.oneCell']) rfl rfl rfl rfl ?_)
  rw [World.setRow_alloc_new]
  have HE := Lib.hid (by have h := Blk.new w5 30 #[.int .i64 E.dg, .int .i64 E.tn, .string E.nm, .slice A5 E.zs.length c5, .int .i64 E.wd, .int .i64 E.lf, .int .i64 E.rt]; (try simp only [World.size_alloc] at h); exact h)
  replace HA := Lib.hid (Byts.alloc (.cells #[.int .i64 E.dg, .int .i64 E.tn, .string E.nm, .slice A5 E.zs.length c5, .int .i64 E.wd, .int .i64 E.lf, .int .i64 E.rt] 30) HA.out)
  replace HI := Lib.hid (Ints.alloc (.cells #[.int .i64 E.dg, .int .i64 E.tn, .string E.nm, .slice A5 E.zs.length c5, .int .i64 E.wd, .int .i64 E.lf, .int .i64 E.rt] 30) HI.out)
  replace HM := Lib.hid (Ints.alloc (.cells #[.int .i64 E.dg, .int .i64 E.tn, .string E.nm, .slice A5 E.zs.length c5, .int .i64 E.wd, .int .i64 E.lf, .int .i64 E.rt] 30) HM.out)
  replace HU := Lib.hid (Prs.alloc (.cells #[.int .i64 E.dg, .int .i64 E.tn, .string E.nm, .slice A5 E.zs.length c5, .int .i64 E.wd, .int .i64 E.lf, .int .i64 E.rt] 30) HU.out)
  replace HV := Lib.hid (Prs.alloc (.cells #[.int .i64 E.dg, .int .i64 E.tn, .string E.nm, .slice A5 E.zs.length c5, .int .i64 E.wd, .int .i64 E.lf, .int .i64 E.rt] 30) HV.out)
  replace HR := Lib.hid (Blk.alloc (.cells #[.int .i64 E.dg, .int .i64 E.tn, .string E.nm, .slice A5 E.zs.length c5, .int .i64 E.wd, .int .i64 E.lf, .int .i64 E.rt] 30) HR.out)
  replace HID := Lib.hid (Ints.alloc (.cells #[.int .i64 E.dg, .int .i64 E.tn, .string E.nm, .slice A5 E.zs.length c5, .int .i64 E.wd, .int .i64 E.lf, .int .i64 E.rt] 30) HID.out)
  replace HD := Lib.hid (Blk.alloc (.cells #[.int .i64 E.dg, .int .i64 E.tn, .string E.nm, .slice A5 E.zs.length c5, .int .i64 E.wd, .int .i64 E.lf, .int .i64 E.rt] 30) HD.out)
  replace HI5 := Lib.hid (Ints.alloc (.cells #[.int .i64 E.dg, .int .i64 E.tn, .string E.nm, .slice A5 E.zs.length c5, .int .i64 E.wd, .int .i64 E.lf, .int .i64 E.rt] 30) HI5.out)
  replace HB := Lib.hid (Bel.alloc HB.out (.cells #[.int .i64 E.dg, .int .i64 E.tn, .string E.nm, .slice A5 E.zs.length c5, .int .i64 E.wd, .int .i64 E.lf, .int .i64 E.rt] 30))
  go_wp2_with (first | (refine wpList_load_blkG 30 _ _ (Blk.step (zb0 HB) HD.out) Tryz.underlying30 (by kernel_rfl) rfl rfl (by rfl) ?_))
  go_at_call 31; refine (WithModuli_S D (some ⟨gd, 0, none⟩) qd x y hDn hDm _ (by repeat (with_reducible first | exact HID.out | assumption | refine Ints.drew ?_ | refine Ints.drewN _ ?_ | refine Ints.alloc _ ?_ | refine Ints.step (by assumption) ?_))).mono ?_; rintro e w6 ⟨A6, c6, rfl, hO6, hb6⟩; have hka := zba HB hb6; (try replace HA := yY hb6 hka HA); (try replace HI := yI hb6 hka HI); (try replace HM := yI hb6 hka HM); (try replace HU := yR hb6 hka HU); (try replace HV := yR hb6 hka HV); (try replace HR := yB hb6 hka HR); (try replace HID := yI hb6 hka HID); (try replace HD := yB hb6 hka HD); (try replace HI5 := yI hb6 hka HI5); (try replace HE := yB hb6 hka HE); replace HB := Lib.hid (Bel.step hb6 (Bel.step hka HB.out)); have hsz6 := hb6.size; have hsy6 := hka.size; (try simp only [World.size_alloc, World.size_drew, World.heap_drewN, World.size_setCell] at hsz6 hsy6); clear hka hb6
  clear hsz6 hsy6
  try generalize Value.agg #[.int .i64 D.dg, .int .i64 D.tn, .string D.nm, .slice (some ⟨gd, 0, none⟩) D.zs.length qd, .int .i64 D.wd, .int .i64 D.lf, .int .i64 D.rt] = vv4
  rw [← HEE.out.1] at hO6
  rw [← HEE.out.1, ← HEE.out.2]
  clear HEE hDn hDm
  clear HD HID
  have HI6 := Lib.hid hO6.ints
  clear hO6
  go_upto_region 9 with (refine wpList_store_blk (cs := #[.int .i64 E.dg, .int .i64 E.tn, .string E.nm, .slice A6 E.zs.length c6, .int .i64 E.wd, .int .i64 E.lf, .int .i64 E.rt]) 30 _ _ _ (Blk.new _ _ _) (by kernel_rfl) rfl (by simp [Value.oneCell']) rfl rfl rfl rfl ?_)
  rw [World.setRow_alloc_new]
  have HE2 := Lib.hid (by have h := Blk.new w6 30 #[.int .i64 E.dg, .int .i64 E.tn, .string E.nm, .slice A6 E.zs.length c6, .int .i64 E.wd, .int .i64 E.lf, .int .i64 E.rt]; (try simp only [World.size_alloc] at h); exact h)
  replace HA := Lib.hid (Byts.alloc (.cells #[.int .i64 E.dg, .int .i64 E.tn, .string E.nm, .slice A6 E.zs.length c6, .int .i64 E.wd, .int .i64 E.lf, .int .i64 E.rt] 30) HA.out)
  replace HI := Lib.hid (Ints.alloc (.cells #[.int .i64 E.dg, .int .i64 E.tn, .string E.nm, .slice A6 E.zs.length c6, .int .i64 E.wd, .int .i64 E.lf, .int .i64 E.rt] 30) HI.out)
  replace HM := Lib.hid (Ints.alloc (.cells #[.int .i64 E.dg, .int .i64 E.tn, .string E.nm, .slice A6 E.zs.length c6, .int .i64 E.wd, .int .i64 E.lf, .int .i64 E.rt] 30) HM.out)
  replace HU := Lib.hid (Prs.alloc (.cells #[.int .i64 E.dg, .int .i64 E.tn, .string E.nm, .slice A6 E.zs.length c6, .int .i64 E.wd, .int .i64 E.lf, .int .i64 E.rt] 30) HU.out)
  replace HV := Lib.hid (Prs.alloc (.cells #[.int .i64 E.dg, .int .i64 E.tn, .string E.nm, .slice A6 E.zs.length c6, .int .i64 E.wd, .int .i64 E.lf, .int .i64 E.rt] 30) HV.out)
  replace HR := Lib.hid (Blk.alloc (.cells #[.int .i64 E.dg, .int .i64 E.tn, .string E.nm, .slice A6 E.zs.length c6, .int .i64 E.wd, .int .i64 E.lf, .int .i64 E.rt] 30) HR.out)
  replace HI5 := Lib.hid (Ints.alloc (.cells #[.int .i64 E.dg, .int .i64 E.tn, .string E.nm, .slice A6 E.zs.length c6, .int .i64 E.wd, .int .i64 E.lf, .int .i64 E.rt] 30) HI5.out)
  replace HE := Lib.hid (Blk.alloc (.cells #[.int .i64 E.dg, .int .i64 E.tn, .string E.nm, .slice A6 E.zs.length c6, .int .i64 E.wd, .int .i64 E.lf, .int .i64 E.rt] 30) HE.out)
  replace HI6 := Lib.hid (Ints.alloc (.cells #[.int .i64 E.dg, .int .i64 E.tn, .string E.nm, .slice A6 E.zs.length c6, .int .i64 E.wd, .int .i64 E.lf, .int .i64 E.rt] 30) HI6.out)
  replace HB := Lib.hid (Bel.alloc HB.out (.cells #[.int .i64 E.dg, .int .i64 E.tn, .string E.nm, .slice A6 E.zs.length c6, .int .i64 E.wd, .int .i64 E.lf, .int .i64 E.rt] 30))
  go_wp2_with fail
  go_at_call 32; refine (DrawGreatestModulus_c A c zs hz _ (Byts.step (by repeat (with_reducible first | exact Below.refl _ _ | refine Bel.alloc ?_ _)) HA.out)).mono ?_; rintro e w7 ⟨F, gf, qf, pd, pt, sd, st, lim, rfl, hn0, hm0, hO7, hb7⟩; have hka := zba HB hb7; (try replace HA := yY hb7 hka HA); (try replace HI := yI hb7 hka HI); (try replace HM := yI hb7 hka HM); (try replace HU := yR hb7 hka HU); (try replace HV := yR hb7 hka HV); (try replace HR := yB hb7 hka HR); (try replace HI5 := yI hb7 hka HI5); (try replace HE := yB hb7 hka HE); (try replace HI6 := yI hb7 hka HI6); (try replace HE2 := yB hb7 hka HE2); replace HB := Lib.hid (Bel.step hb7 (Bel.step hka HB.out)); have hsz7 := hb7.size; have hsy7 := hka.size; (try simp only [World.size_alloc, World.size_drew, World.heap_drewN, World.size_setCell] at hsz7 hsy7); clear hka hb7
  clear hsz7 hsy7
  try generalize Value.agg #[.int .i64 E.dg, .int .i64 E.tn, .string E.nm, .slice A6 E.zs.length c6, .int .i64 E.wd, .int .i64 E.lf, .int .i64 E.rt] = vv5
  have HIF := Lib.hid hO7.ints
  clear hO7
  have hFn : F.zs.length ≤ 1048576 := by omega
  have hFm : F.nm.size ≤ 1048576 := by omega
  clear hn0 hm0
  have Z0 : Blk (((w7.alloc (.cells #[.int .i64 0, .int .i64 0, .string ⟨#[]⟩, .slice none 0 0, .int .i64 0, .int .i64 0, .int .i64 0] 30)).alloc (.cells #[.int .i64 0, .int .i64 0] 25)).alloc (.cells #[.int .i64 0, .int .i64 0] 25)) (w7.heap.size) 30 #[.int .i64 0, .int .i64 0, .string ⟨#[]⟩, .slice none 0 0, .int .i64 0, .int .i64 0, .int .i64 0] := Blk.alloc _ (Blk.alloc _ (Blk.new _ _ _))
  have Z1 : Blk (((w7.alloc (.cells #[.int .i64 0, .int .i64 0, .string ⟨#[]⟩, .slice none 0 0, .int .i64 0, .int .i64 0, .int .i64 0] 30)).alloc (.cells #[.int .i64 0, .int .i64 0] 25)).alloc (.cells #[.int .i64 0, .int .i64 0] 25)) (w7.heap.size + 1) 25 #[.int .i64 0, .int .i64 0] := Blk.alloc _ (by have h := Blk.new (w7.alloc (.cells #[.int .i64 0, .int .i64 0, .string ⟨#[]⟩, .slice none 0 0, .int .i64 0, .int .i64 0, .int .i64 0] 30)) 25 #[.int .i64 0, .int .i64 0]; simp only [World.size_alloc] at h; exact h)
  have Z2 : Blk (((w7.alloc (.cells #[.int .i64 0, .int .i64 0, .string ⟨#[]⟩, .slice none 0 0, .int .i64 0, .int .i64 0, .int .i64 0] 30)).alloc (.cells #[.int .i64 0, .int .i64 0] 25)).alloc (.cells #[.int .i64 0, .int .i64 0] 25)) (w7.heap.size + 1 + 1) 25 #[.int .i64 0, .int .i64 0] := by have h := Blk.new ((w7.alloc (.cells #[.int .i64 0, .int .i64 0, .string ⟨#[]⟩, .slice none 0 0, .int .i64 0, .int .i64 0, .int .i64 0] 30)).alloc (.cells #[.int .i64 0, .int .i64 0] 25)) 25 #[.int .i64 0, .int .i64 0]; simp only [World.size_alloc] at h; exact h
  go_upto_region 10 with ((refine wpList_store_blk (cs := #[.int .i64 F.dg, .int .i64 F.tn, .string F.nm, .slice (some ⟨gf, 0, none⟩) F.zs.length qf, .int .i64 F.wd, .int .i64 F.lf, .int .i64 F.rt]) 30 _ _ _ Z0 (by kernel_rfl) rfl (by simp [Value.oneCell']) rfl rfl rfl rfl ?_); go_upto_region 10 with ((refine wpList_store_blk (cs := #[.int .i64 pd, .int .i64 pt]) 25 _ _ _ (Blk.setRow_far _ (by omega) Z1) (by kernel_rfl) rfl (by simp [Value.oneCell']) rfl rfl rfl rfl ?_); go_upto_region 10 with ((refine wpList_store_blk (cs := #[.int .i64 sd, .int .i64 st]) 25 _ _ _ (Blk.setRow_far _ (by omega) (Blk.setRow_far _ (by omega) Z2)) (by kernel_rfl) rfl (by simp [Value.oneCell']) rfl rfl rfl rfl ?_))))
  have hbig : Below w7.heap.size w7 ((((((w7.alloc (.cells #[.int .i64 0, .int .i64 0, .string ⟨#[]⟩, .slice none 0 0, .int .i64 0, .int .i64 0, .int .i64 0] 30)).alloc (.cells #[.int .i64 0, .int .i64 0] 25)).alloc (.cells #[.int .i64 0, .int .i64 0] 25)).setRow (w7.heap.size) #[.int .i64 F.dg, .int .i64 F.tn, .string F.nm, .slice (some ⟨gf, 0, none⟩) F.zs.length qf, .int .i64 F.wd, .int .i64 F.lf, .int .i64 F.rt]).setRow (w7.heap.size + 1) #[.int .i64 pd, .int .i64 pt]).setRow (w7.heap.size + 1 + 1) #[.int .i64 sd, .int .i64 st]) := (Bel.setRow (Bel.setRow (Bel.setRow (Bel.alloc (Bel.alloc (Bel.alloc (Below.refl _ _) _) _) _) (by omega) _) (by omega) _) (by omega) _)
  have HF : Hid (Blk ((((((w7.alloc (.cells #[.int .i64 0, .int .i64 0, .string ⟨#[]⟩, .slice none 0 0, .int .i64 0, .int .i64 0, .int .i64 0] 30)).alloc (.cells #[.int .i64 0, .int .i64 0] 25)).alloc (.cells #[.int .i64 0, .int .i64 0] 25)).setRow (w7.heap.size) #[.int .i64 F.dg, .int .i64 F.tn, .string F.nm, .slice (some ⟨gf, 0, none⟩) F.zs.length qf, .int .i64 F.wd, .int .i64 F.lf, .int .i64 F.rt]).setRow (w7.heap.size + 1) #[.int .i64 pd, .int .i64 pt]).setRow (w7.heap.size + 1 + 1) #[.int .i64 sd, .int .i64 st]) (w7.heap.size) 30 #[.int .i64 F.dg, .int .i64 F.tn, .string F.nm, .slice (some ⟨gf, 0, none⟩) F.zs.length qf, .int .i64 F.wd, .int .i64 F.lf, .int .i64 F.rt]) := Lib.hid (Blk.setRow_far _ (by omega) (Blk.setRow_far _ (by omega) (Blk.setRow _ Z0)))
  have HP : Hid (Blk ((((((w7.alloc (.cells #[.int .i64 0, .int .i64 0, .string ⟨#[]⟩, .slice none 0 0, .int .i64 0, .int .i64 0, .int .i64 0] 30)).alloc (.cells #[.int .i64 0, .int .i64 0] 25)).alloc (.cells #[.int .i64 0, .int .i64 0] 25)).setRow (w7.heap.size) #[.int .i64 F.dg, .int .i64 F.tn, .string F.nm, .slice (some ⟨gf, 0, none⟩) F.zs.length qf, .int .i64 F.wd, .int .i64 F.lf, .int .i64 F.rt]).setRow (w7.heap.size + 1) #[.int .i64 pd, .int .i64 pt]).setRow (w7.heap.size + 1 + 1) #[.int .i64 sd, .int .i64 st]) (w7.heap.size + 1) 25 #[.int .i64 pd, .int .i64 pt]) := Lib.hid (Blk.setRow_far _ (by omega) (Blk.setRow _ (Blk.setRow_far _ (by omega) Z1)))
  have HQ : Hid (Blk ((((((w7.alloc (.cells #[.int .i64 0, .int .i64 0, .string ⟨#[]⟩, .slice none 0 0, .int .i64 0, .int .i64 0, .int .i64 0] 30)).alloc (.cells #[.int .i64 0, .int .i64 0] 25)).alloc (.cells #[.int .i64 0, .int .i64 0] 25)).setRow (w7.heap.size) #[.int .i64 F.dg, .int .i64 F.tn, .string F.nm, .slice (some ⟨gf, 0, none⟩) F.zs.length qf, .int .i64 F.wd, .int .i64 F.lf, .int .i64 F.rt]).setRow (w7.heap.size + 1) #[.int .i64 pd, .int .i64 pt]).setRow (w7.heap.size + 1 + 1) #[.int .i64 sd, .int .i64 st]) (w7.heap.size + 1 + 1) 25 #[.int .i64 sd, .int .i64 st]) := Lib.hid (Blk.setRow _ (Blk.setRow_far _ (by omega) (Blk.setRow_far _ (by omega) Z2)))
  replace HA := Lib.hid (Byts.step hbig HA.out)
  replace HI := Lib.hid (Ints.step hbig HI.out)
  replace HM := Lib.hid (Ints.step hbig HM.out)
  replace HU := Lib.hid (Prs.step hbig HU.out)
  replace HV := Lib.hid (Prs.step hbig HV.out)
  replace HR := Lib.hid (Blk.step hbig HR.out)
  replace HI5 := Lib.hid (Ints.step hbig HI5.out)
  replace HE := Lib.hid (Blk.step hbig HE.out)
  replace HI6 := Lib.hid (Ints.step hbig HI6.out)
  replace HE2 := Lib.hid (Blk.step hbig HE2.out)
  replace HIF := Lib.hid (Ints.step hbig HIF.out)
  replace HB := Lib.hid (Bel.step hbig HB.out)
  clear hbig Z0 Z1 Z2
  generalize ((((((w7.alloc (.cells #[.int .i64 0, .int .i64 0, .string ⟨#[]⟩, .slice none 0 0, .int .i64 0, .int .i64 0, .int .i64 0] 30)).alloc (.cells #[.int .i64 0, .int .i64 0] 25)).alloc (.cells #[.int .i64 0, .int .i64 0] 25)).setRow (w7.heap.size) #[.int .i64 F.dg, .int .i64 F.tn, .string F.nm, .slice (some ⟨gf, 0, none⟩) F.zs.length qf, .int .i64 F.wd, .int .i64 F.lf, .int .i64 F.rt]).setRow (w7.heap.size + 1) #[.int .i64 pd, .int .i64 pt]).setRow (w7.heap.size + 1 + 1) #[.int .i64 sd, .int .i64 st]) = V7 at HB HA HI HM HU HV HR HI5 HE HI6 HE2 HIF HF HP HQ ⊢
  go_wp2_with (first | (refine wpList_load_blkG 30 _ _ (Blk.step (zb0 HB) HF.out) Tryz.underlying30 (by kernel_rfl) rfl rfl (by rfl) ?_) | (refine wpList_load_blkG 25 _ _ (Blk.step (zb0 HB) HP.out) Tryz.underlying25 (by kernel_rfl) rfl rfl (by rfl) ?_) | (refine wpList_load_blkG 25 _ _ (Blk.step (zb0 HB) HQ.out) Tryz.underlying25 (by kernel_rfl) rfl rfl (by rfl) ?_))
  go_at_call 33; refine (GreatestModulus_I F (some ⟨gf, 0, none⟩) qf pd pt sd st lim hFn hFm _ (by repeat (with_reducible first | exact HIF.out | assumption | refine Ints.drew ?_ | refine Ints.drewN _ ?_ | refine Ints.alloc _ ?_ | refine Ints.step (by assumption) ?_))).mono ?_; rintro e w8 ⟨rfl, hb8⟩; have hka := zba HB hb8; (try replace HA := yY hb8 hka HA); (try replace HI := yI hb8 hka HI); (try replace HM := yI hb8 hka HM); (try replace HU := yR hb8 hka HU); (try replace HV := yR hb8 hka HV); (try replace HR := yB hb8 hka HR); (try replace HI5 := yI hb8 hka HI5); (try replace HE := yB hb8 hka HE); (try replace HI6 := yI hb8 hka HI6); (try replace HE2 := yB hb8 hka HE2); (try replace HIF := yI hb8 hka HIF); (try replace HF := yB hb8 hka HF); (try replace HP := yB hb8 hka HP); (try replace HQ := yB hb8 hka HQ); replace HB := Lib.hid (Bel.step hb8 (Bel.step hka HB.out)); have hsz8 := hb8.size; have hsy8 := hka.size; (try simp only [World.size_alloc, World.size_drew, World.heap_drewN, World.size_setCell] at hsz8 hsy8); clear hka hb8
  clear hsz8 hsy8
  try generalize Value.agg #[.int .i64 F.dg, .int .i64 F.tn, .string F.nm, .slice (some ⟨gf, 0, none⟩) F.zs.length qf, .int .i64 F.wd, .int .i64 F.lf, .int .i64 F.rt] = vv6
  have hgm := fun h => gm_facts2 (C := F) (ud := pd) (ut := pt) (vd := sd) (vt := st) (mo := lim) h
  obtain ⟨gv, hgv⟩ : ∃ k, k = gmV F pd pt sd st lim := ⟨_, rfl⟩
  obtain ⟨kg, hkg⟩ : ∃ k, k = gmC F pd pt sd st lim := ⟨_, rfl⟩
  rw [← hgv, ← hkg] at hgm ⊢
  have HGV := Lib.hid (And.intro hgv hkg)
  clear hgv hkg
  have HGM := Lib.hid hgm
  clear hgm
  go_wp2_with (first | (refine wpList_load_blkG 30 _ _ (Blk.step (zb0 HB) HF.out) Tryz.underlying30 (by kernel_rfl) rfl rfl (by rfl) ?_) | (refine wpList_load_blkG 25 _ _ (Blk.step (zb0 HB) HP.out) Tryz.underlying25 (by kernel_rfl) rfl rfl (by rfl) ?_) | (refine wpList_load_blkG 25 _ _ (Blk.step (zb0 HB) HQ.out) Tryz.underlying25 (by kernel_rfl) rfl rfl (by rfl) ?_))
  go_at_call 34; refine (GreatestModulus_S F (some ⟨gf, 0, none⟩) qf pd pt sd st lim hFn hFm _ (by repeat (with_reducible first | exact HIF.out | assumption | refine Ints.drew ?_ | refine Ints.drewN _ ?_ | refine Ints.alloc _ ?_ | refine Ints.step (by assumption) ?_))).mono ?_; rintro e w9 ⟨rfl, hb9⟩; have hka := zba HB hb9; (try replace HA := yY hb9 hka HA); (try replace HI := yI hb9 hka HI); (try replace HM := yI hb9 hka HM); (try replace HU := yR hb9 hka HU); (try replace HV := yR hb9 hka HV); (try replace HR := yB hb9 hka HR); (try replace HI5 := yI hb9 hka HI5); (try replace HE := yB hb9 hka HE); (try replace HI6 := yI hb9 hka HI6); (try replace HE2 := yB hb9 hka HE2); (try replace HIF := yI hb9 hka HIF); (try replace HF := yB hb9 hka HF); (try replace HP := yB hb9 hka HP); (try replace HQ := yB hb9 hka HQ); replace HB := Lib.hid (Bel.step hb9 (Bel.step hka HB.out)); have hsz9 := hb9.size; have hsy9 := hka.size; (try simp only [World.size_alloc, World.size_drew, World.heap_drewN, World.size_setCell] at hsz9 hsy9); clear hka hb9
  clear hsz9 hsy9
  try generalize Value.agg #[.int .i64 F.dg, .int .i64 F.tn, .string F.nm, .slice (some ⟨gf, 0, none⟩) F.zs.length qf, .int .i64 F.wd, .int .i64 F.lf, .int .i64 F.rt] = vv7
  rw [← HGV.out.1, ← HGV.out.2]
  clear HGV
  go_wp2_with fail
  go_at_call 35; refine (DrawCompareLayouts_c A c zs hz _ HA.out).mono ?_; rintro e w10 ⟨U, gu, qu, K, gk, qk, ss, ts, GS, GT, cs, ct, ek, rfl, ⟨hn0, hm0, kn0, km0, hu0, hv0⟩, hIU, hIK, hSS, hTT, hb10⟩; have hka := zba HB hb10; (try replace HA := yY hb10 hka HA); (try replace HI := yI hb10 hka HI); (try replace HM := yI hb10 hka HM); (try replace HU := yR hb10 hka HU); (try replace HV := yR hb10 hka HV); (try replace HR := yB hb10 hka HR); (try replace HI5 := yI hb10 hka HI5); (try replace HE := yB hb10 hka HE); (try replace HI6 := yI hb10 hka HI6); (try replace HE2 := yB hb10 hka HE2); (try replace HIF := yI hb10 hka HIF); (try replace HF := yB hb10 hka HF); (try replace HP := yB hb10 hka HP); (try replace HQ := yB hb10 hka HQ); replace HB := Lib.hid (Bel.step hb10 (Bel.step hka HB.out)); have hsz10 := hb10.size; have hsy10 := hka.size; (try simp only [World.size_alloc, World.size_drew, World.heap_drewN, World.size_setCell] at hsz10 hsy10); clear hka hb10
  clear hsz10 hsy10
  have hUn : U.zs.length ≤ 1048576 := by omega
  have hUm : U.nm.size ≤ 1048576 := by omega
  have hKn : K.zs.length ≤ 1048576 := by omega
  have hKm : K.nm.size ≤ 1048576 := by omega
  have hss : ss.length ≤ 1048576 := by omega
  have hts : ts.length ≤ 1048576 := by omega
  clear hn0 hm0 kn0 km0 hu0 hv0
  have HIU := Lib.hid hIU
  clear hIU
  have HIK := Lib.hid hIK
  clear hIK
  have HSS := Lib.hid hSS
  clear hSS
  have HTT := Lib.hid hTT
  clear hTT
  have Z0 : Blk ((w10.alloc (.cells #[.int .i64 0, .int .i64 0, .string ⟨#[]⟩, .slice none 0 0, .int .i64 0, .int .i64 0, .int .i64 0] 30)).alloc (.cells #[.int .i64 0, .int .i64 0, .string ⟨#[]⟩, .slice none 0 0, .int .i64 0, .int .i64 0, .int .i64 0] 30)) (w10.heap.size) 30 #[.int .i64 0, .int .i64 0, .string ⟨#[]⟩, .slice none 0 0, .int .i64 0, .int .i64 0, .int .i64 0] := Blk.alloc _ (Blk.new _ _ _)
  have Z1 : Blk ((w10.alloc (.cells #[.int .i64 0, .int .i64 0, .string ⟨#[]⟩, .slice none 0 0, .int .i64 0, .int .i64 0, .int .i64 0] 30)).alloc (.cells #[.int .i64 0, .int .i64 0, .string ⟨#[]⟩, .slice none 0 0, .int .i64 0, .int .i64 0, .int .i64 0] 30)) (w10.heap.size + 1) 30 #[.int .i64 0, .int .i64 0, .string ⟨#[]⟩, .slice none 0 0, .int .i64 0, .int .i64 0, .int .i64 0] := by have h := Blk.new (w10.alloc (.cells #[.int .i64 0, .int .i64 0, .string ⟨#[]⟩, .slice none 0 0, .int .i64 0, .int .i64 0, .int .i64 0] 30)) 30 #[.int .i64 0, .int .i64 0, .string ⟨#[]⟩, .slice none 0 0, .int .i64 0, .int .i64 0, .int .i64 0]; simp only [World.size_alloc] at h; exact h
  go_upto_region 13 with ((refine wpList_store_blk (cs := #[.int .i64 U.dg, .int .i64 U.tn, .string U.nm, .slice (some ⟨gu, 0, none⟩) U.zs.length qu, .int .i64 U.wd, .int .i64 U.lf, .int .i64 U.rt]) 30 _ _ _ Z0 (by kernel_rfl) rfl (by simp [Value.oneCell']) rfl rfl rfl rfl ?_); go_upto_region 13 with ((refine wpList_store_blk (cs := #[.int .i64 K.dg, .int .i64 K.tn, .string K.nm, .slice (some ⟨gk, 0, none⟩) K.zs.length qk, .int .i64 K.wd, .int .i64 K.lf, .int .i64 K.rt]) 30 _ _ _ (Blk.setRow_far _ (by omega) Z1) (by kernel_rfl) rfl (by simp [Value.oneCell']) rfl rfl rfl rfl ?_)))
  have hbig : Below w10.heap.size w10 ((((w10.alloc (.cells #[.int .i64 0, .int .i64 0, .string ⟨#[]⟩, .slice none 0 0, .int .i64 0, .int .i64 0, .int .i64 0] 30)).alloc (.cells #[.int .i64 0, .int .i64 0, .string ⟨#[]⟩, .slice none 0 0, .int .i64 0, .int .i64 0, .int .i64 0] 30)).setRow (w10.heap.size) #[.int .i64 U.dg, .int .i64 U.tn, .string U.nm, .slice (some ⟨gu, 0, none⟩) U.zs.length qu, .int .i64 U.wd, .int .i64 U.lf, .int .i64 U.rt]).setRow (w10.heap.size + 1) #[.int .i64 K.dg, .int .i64 K.tn, .string K.nm, .slice (some ⟨gk, 0, none⟩) K.zs.length qk, .int .i64 K.wd, .int .i64 K.lf, .int .i64 K.rt]) := (Bel.setRow (Bel.setRow (Bel.alloc (Bel.alloc (Below.refl _ _) _) _) (by omega) _) (by omega) _)
  have HCU : Hid (Blk ((((w10.alloc (.cells #[.int .i64 0, .int .i64 0, .string ⟨#[]⟩, .slice none 0 0, .int .i64 0, .int .i64 0, .int .i64 0] 30)).alloc (.cells #[.int .i64 0, .int .i64 0, .string ⟨#[]⟩, .slice none 0 0, .int .i64 0, .int .i64 0, .int .i64 0] 30)).setRow (w10.heap.size) #[.int .i64 U.dg, .int .i64 U.tn, .string U.nm, .slice (some ⟨gu, 0, none⟩) U.zs.length qu, .int .i64 U.wd, .int .i64 U.lf, .int .i64 U.rt]).setRow (w10.heap.size + 1) #[.int .i64 K.dg, .int .i64 K.tn, .string K.nm, .slice (some ⟨gk, 0, none⟩) K.zs.length qk, .int .i64 K.wd, .int .i64 K.lf, .int .i64 K.rt]) (w10.heap.size) 30 #[.int .i64 U.dg, .int .i64 U.tn, .string U.nm, .slice (some ⟨gu, 0, none⟩) U.zs.length qu, .int .i64 U.wd, .int .i64 U.lf, .int .i64 U.rt]) := Lib.hid (Blk.setRow_far _ (by omega) (Blk.setRow _ Z0))
  have HCK : Hid (Blk ((((w10.alloc (.cells #[.int .i64 0, .int .i64 0, .string ⟨#[]⟩, .slice none 0 0, .int .i64 0, .int .i64 0, .int .i64 0] 30)).alloc (.cells #[.int .i64 0, .int .i64 0, .string ⟨#[]⟩, .slice none 0 0, .int .i64 0, .int .i64 0, .int .i64 0] 30)).setRow (w10.heap.size) #[.int .i64 U.dg, .int .i64 U.tn, .string U.nm, .slice (some ⟨gu, 0, none⟩) U.zs.length qu, .int .i64 U.wd, .int .i64 U.lf, .int .i64 U.rt]).setRow (w10.heap.size + 1) #[.int .i64 K.dg, .int .i64 K.tn, .string K.nm, .slice (some ⟨gk, 0, none⟩) K.zs.length qk, .int .i64 K.wd, .int .i64 K.lf, .int .i64 K.rt]) (w10.heap.size + 1) 30 #[.int .i64 K.dg, .int .i64 K.tn, .string K.nm, .slice (some ⟨gk, 0, none⟩) K.zs.length qk, .int .i64 K.wd, .int .i64 K.lf, .int .i64 K.rt]) := Lib.hid (Blk.setRow _ (Blk.setRow_far _ (by omega) Z1))
  replace HA := Lib.hid (Byts.step hbig HA.out)
  replace HI := Lib.hid (Ints.step hbig HI.out)
  replace HM := Lib.hid (Ints.step hbig HM.out)
  replace HU := Lib.hid (Prs.step hbig HU.out)
  replace HV := Lib.hid (Prs.step hbig HV.out)
  replace HR := Lib.hid (Blk.step hbig HR.out)
  replace HI5 := Lib.hid (Ints.step hbig HI5.out)
  replace HE := Lib.hid (Blk.step hbig HE.out)
  replace HI6 := Lib.hid (Ints.step hbig HI6.out)
  replace HE2 := Lib.hid (Blk.step hbig HE2.out)
  replace HIF := Lib.hid (Ints.step hbig HIF.out)
  replace HF := Lib.hid (Blk.step hbig HF.out)
  replace HP := Lib.hid (Blk.step hbig HP.out)
  replace HQ := Lib.hid (Blk.step hbig HQ.out)
  replace HIU := Lib.hid (Ints.step hbig HIU.out)
  replace HIK := Lib.hid (Ints.step hbig HIK.out)
  replace HSS := Lib.hid (Prs.step hbig HSS.out)
  replace HTT := Lib.hid (Prs.step hbig HTT.out)
  replace HB := Lib.hid (Bel.step hbig HB.out)
  clear hbig Z0 Z1
  generalize ((((w10.alloc (.cells #[.int .i64 0, .int .i64 0, .string ⟨#[]⟩, .slice none 0 0, .int .i64 0, .int .i64 0, .int .i64 0] 30)).alloc (.cells #[.int .i64 0, .int .i64 0, .string ⟨#[]⟩, .slice none 0 0, .int .i64 0, .int .i64 0, .int .i64 0] 30)).setRow (w10.heap.size) #[.int .i64 U.dg, .int .i64 U.tn, .string U.nm, .slice (some ⟨gu, 0, none⟩) U.zs.length qu, .int .i64 U.wd, .int .i64 U.lf, .int .i64 U.rt]).setRow (w10.heap.size + 1) #[.int .i64 K.dg, .int .i64 K.tn, .string K.nm, .slice (some ⟨gk, 0, none⟩) K.zs.length qk, .int .i64 K.wd, .int .i64 K.lf, .int .i64 K.rt]) = V10 at HB HA HI HM HU HV HR HI5 HE HI6 HE2 HIF HF HP HQ HIU HIK HSS HTT HCU HCK ⊢
  go_wp2_with (first | (refine wpList_load_blkG 30 _ _ (Blk.step (zb0 HB) HCU.out) Tryz.underlying30 (by kernel_rfl) rfl rfl (by rfl) ?_) | (refine wpList_load_blkG 30 _ _ (Blk.step (zb0 HB) HCK.out) Tryz.underlying30 (by kernel_rfl) rfl rfl (by rfl) ?_))
  go_at_call 36; refine (CompareLayouts_I U (some ⟨gu, 0, none⟩) qu K (some ⟨gk, 0, none⟩) qk GS cs ss GT ct ts ek hUn hUm hKn hKm hss hts _ (by repeat (with_reducible first | exact HIU.out | assumption | refine Ints.drew ?_ | refine Ints.drewN _ ?_ | refine Ints.alloc _ ?_ | refine Ints.step (by assumption) ?_)) (by repeat (with_reducible first | exact HIK.out | assumption | refine Ints.drew ?_ | refine Ints.drewN _ ?_ | refine Ints.alloc _ ?_ | refine Ints.step (by assumption) ?_)) (by repeat (with_reducible first | exact HSS.out | assumption | refine Prs.drew ?_ | refine Prs.drewN _ ?_ | refine Prs.alloc _ ?_ | refine Prs.step (by assumption) ?_)) (by repeat (with_reducible first | exact HTT.out | assumption | refine Prs.drew ?_ | refine Prs.drewN _ ?_ | refine Prs.alloc _ ?_ | refine Prs.step (by assumption) ?_))).mono ?_; rintro e w11 ⟨rfl, hb11⟩; have hka := zba HB hb11; (try replace HA := yY hb11 hka HA); (try replace HI := yI hb11 hka HI); (try replace HM := yI hb11 hka HM); (try replace HU := yR hb11 hka HU); (try replace HV := yR hb11 hka HV); (try replace HR := yB hb11 hka HR); (try replace HI5 := yI hb11 hka HI5); (try replace HE := yB hb11 hka HE); (try replace HI6 := yI hb11 hka HI6); (try replace HE2 := yB hb11 hka HE2); (try replace HIF := yI hb11 hka HIF); (try replace HF := yB hb11 hka HF); (try replace HP := yB hb11 hka HP); (try replace HQ := yB hb11 hka HQ); (try replace HIU := yI hb11 hka HIU); (try replace HIK := yI hb11 hka HIK); (try replace HSS := yR hb11 hka HSS); (try replace HTT := yR hb11 hka HTT); (try replace HCU := yB hb11 hka HCU); (try replace HCK := yB hb11 hka HCK); replace HB := Lib.hid (Bel.step hb11 (Bel.step hka HB.out)); have hsz11 := hb11.size; have hsy11 := hka.size; (try simp only [World.size_alloc, World.size_drew, World.heap_drewN, World.size_setCell] at hsz11 hsy11); clear hka hb11
  clear hsz11 hsy11
  try generalize Value.agg #[.int .i64 U.dg, .int .i64 U.tn, .string U.nm, .slice (some ⟨gu, 0, none⟩) U.zs.length qu, .int .i64 U.wd, .int .i64 U.lf, .int .i64 U.rt] = vv8
  try generalize Value.agg #[.int .i64 K.dg, .int .i64 K.tn, .string K.nm, .slice (some ⟨gk, 0, none⟩) K.zs.length qk, .int .i64 K.wd, .int .i64 K.lf, .int .i64 K.rt] = vv9
  have hcm := fun h => cm_swap (C := U) (K := K) (us := ss) (vs := ts) (e := ek) h
  obtain ⟨ov, hov⟩ : ∃ k, k = cmV U K ss ts ek := ⟨_, rfl⟩
  obtain ⟨kq, hkq⟩ : ∃ k, k = cmC U K ss ts ek := ⟨_, rfl⟩
  rw [← hov, ← hkq] at hcm ⊢
  have HCV := Lib.hid (And.intro hov hkq)
  clear hov hkq
  have HCM := Lib.hid hcm
  clear hcm
  go_wp2_with (first | (refine wpList_load_blkG 30 _ _ (Blk.step (zb0 HB) HCU.out) Tryz.underlying30 (by kernel_rfl) rfl rfl (by rfl) ?_) | (refine wpList_load_blkG 30 _ _ (Blk.step (zb0 HB) HCK.out) Tryz.underlying30 (by kernel_rfl) rfl rfl (by rfl) ?_))
  go_at_call 37; refine (CompareLayouts_S U (some ⟨gu, 0, none⟩) qu K (some ⟨gk, 0, none⟩) qk GS cs ss GT ct ts ek hUn hUm hKn hKm hss hts _ (by repeat (with_reducible first | exact HIU.out | assumption | refine Ints.drew ?_ | refine Ints.drewN _ ?_ | refine Ints.alloc _ ?_ | refine Ints.step (by assumption) ?_)) (by repeat (with_reducible first | exact HIK.out | assumption | refine Ints.drew ?_ | refine Ints.drewN _ ?_ | refine Ints.alloc _ ?_ | refine Ints.step (by assumption) ?_)) (by repeat (with_reducible first | exact HSS.out | assumption | refine Prs.drew ?_ | refine Prs.drewN _ ?_ | refine Prs.alloc _ ?_ | refine Prs.step (by assumption) ?_)) (by repeat (with_reducible first | exact HTT.out | assumption | refine Prs.drew ?_ | refine Prs.drewN _ ?_ | refine Prs.alloc _ ?_ | refine Prs.step (by assumption) ?_))).mono ?_; rintro e w12 ⟨rfl, hb12⟩; have hka := zba HB hb12; (try replace HA := yY hb12 hka HA); (try replace HI := yI hb12 hka HI); (try replace HM := yI hb12 hka HM); (try replace HU := yR hb12 hka HU); (try replace HV := yR hb12 hka HV); (try replace HR := yB hb12 hka HR); (try replace HI5 := yI hb12 hka HI5); (try replace HE := yB hb12 hka HE); (try replace HI6 := yI hb12 hka HI6); (try replace HE2 := yB hb12 hka HE2); (try replace HIF := yI hb12 hka HIF); (try replace HF := yB hb12 hka HF); (try replace HP := yB hb12 hka HP); (try replace HQ := yB hb12 hka HQ); (try replace HIU := yI hb12 hka HIU); (try replace HIK := yI hb12 hka HIK); (try replace HSS := yR hb12 hka HSS); (try replace HTT := yR hb12 hka HTT); (try replace HCU := yB hb12 hka HCU); (try replace HCK := yB hb12 hka HCK); replace HB := Lib.hid (Bel.step hb12 (Bel.step hka HB.out)); have hsz12 := hb12.size; have hsy12 := hka.size; (try simp only [World.size_alloc, World.size_drew, World.heap_drewN, World.size_setCell] at hsz12 hsy12); clear hka hb12
  clear hsz12 hsy12
  try generalize Value.agg #[.int .i64 U.dg, .int .i64 U.tn, .string U.nm, .slice (some ⟨gu, 0, none⟩) U.zs.length qu, .int .i64 U.wd, .int .i64 U.lf, .int .i64 U.rt] = vv10
  try generalize Value.agg #[.int .i64 K.dg, .int .i64 K.tn, .string K.nm, .slice (some ⟨gk, 0, none⟩) K.zs.length qk, .int .i64 K.wd, .int .i64 K.lf, .int .i64 K.rt] = vv11
  rw [← HCV.out.1, ← HCV.out.2]
  clear HCV
  go_wp2_with (first | (refine wpList_load_blkG 30 _ _ (Blk.step (zb0 HB) HE.out) Tryz.underlying30 (by kernel_rfl) rfl rfl (by rfl) ?_) | (refine wpList_load_blkG 30 _ _ (Blk.step (zb0 HB) HE2.out) Tryz.underlying30 (by kernel_rfl) rfl rfl (by rfl) ?_))
  go_at_call 38; refine (likeCharts_c E A5 A6 c5 c6 hEn _ (by repeat (with_reducible first | exact HI5.out | assumption | refine Ints.drew ?_ | refine Ints.drewN _ ?_ | refine Ints.alloc _ ?_ | refine Ints.step (by assumption) ?_)) (by repeat (with_reducible first | exact HI6.out | assumption | refine Ints.drew ?_ | refine Ints.drewN _ ?_ | refine Ints.alloc _ ?_ | refine Ints.step (by assumption) ?_))).mono ?_; rintro e w13 ⟨rfl, hb13⟩; have hka := zba HB hb13; (try replace HA := yY hb13 hka HA); (try replace HI := yI hb13 hka HI); (try replace HM := yI hb13 hka HM); (try replace HU := yR hb13 hka HU); (try replace HV := yR hb13 hka HV); (try replace HR := yB hb13 hka HR); (try replace HI5 := yI hb13 hka HI5); (try replace HE := yB hb13 hka HE); (try replace HI6 := yI hb13 hka HI6); (try replace HE2 := yB hb13 hka HE2); (try replace HIF := yI hb13 hka HIF); (try replace HF := yB hb13 hka HF); (try replace HP := yB hb13 hka HP); (try replace HQ := yB hb13 hka HQ); (try replace HIU := yI hb13 hka HIU); (try replace HIK := yI hb13 hka HIK); (try replace HSS := yR hb13 hka HSS); (try replace HTT := yR hb13 hka HTT); (try replace HCU := yB hb13 hka HCU); (try replace HCK := yB hb13 hka HCK); replace HB := Lib.hid (Bel.step hb13 (Bel.step hka HB.out)); have hsz13 := hb13.size; have hsy13 := hka.size; (try simp only [World.size_alloc, World.size_drew, World.heap_drewN, World.size_setCell] at hsz13 hsy13); clear hka hb13
  clear hsz13 hsy13
  try generalize Value.agg #[.int .i64 E.dg, .int .i64 E.tn, .string E.nm, .slice A5 E.zs.length c5, .int .i64 E.wd, .int .i64 E.lf, .int .i64 E.rt] = vv12
  try generalize Value.agg #[.int .i64 E.dg, .int .i64 E.tn, .string E.nm, .slice A6 E.zs.length c6, .int .i64 E.wd, .int .i64 E.lf, .int .i64 E.rt] = vv13
  clear HE HE2 HI5 HI6
  by_cases hkg : kg = 0
  all_goals first
    | (have hkgb : (kg == 0) = false := by simpa using hkg
       go_upto_region 22 with (fail)
       obtain ⟨W, rfl⟩ : ∃ U : World, U = w13 := ⟨_, rfl⟩)
    | (obtain ⟨s1, s2, s3, s4⟩ := HGM.out hkg
       subst hkg
       have f6 : (w13).cell? ⟨w7.heap.size, 6, none⟩ = some (.int .i64 F.rt) := by rw [HF.out.cell]; rfl
       go_wp2_with (first | (refine wpList_load_blkG 30 _ _ (Blk.step (zb0 HB) HF.out) Tryz.underlying30 (by kernel_rfl) rfl rfl (by rfl) ?_))
       go_at_call 30; refine (WithModuli_I F (some ⟨gf, 0, none⟩) qf gv F.rt hFn hFm _ (by repeat (with_reducible first | exact HIF.out | assumption | refine Ints.drew ?_ | refine Ints.drewN _ ?_ | refine Ints.alloc _ ?_ | refine Ints.step (by assumption) ?_))).mono ?_; rintro e w14 ⟨A14, c14, rfl, hO14, hb14⟩; have hka := zba HB hb14; (try replace HA := yY hb14 hka HA); (try replace HI := yI hb14 hka HI); (try replace HM := yI hb14 hka HM); (try replace HU := yR hb14 hka HU); (try replace HV := yR hb14 hka HV); (try replace HR := yB hb14 hka HR); (try replace HIF := yI hb14 hka HIF); (try replace HF := yB hb14 hka HF); (try replace HP := yB hb14 hka HP); (try replace HQ := yB hb14 hka HQ); (try replace HIU := yI hb14 hka HIU); (try replace HIK := yI hb14 hka HIK); (try replace HSS := yR hb14 hka HSS); (try replace HTT := yR hb14 hka HTT); (try replace HCU := yB hb14 hka HCU); (try replace HCK := yB hb14 hka HCK); replace HB := Lib.hid (Bel.step hb14 (Bel.step hka HB.out)); have hsz14 := hb14.size; have hsy14 := hka.size; (try simp only [World.size_alloc, World.size_drew, World.heap_drewN, World.size_setCell] at hsz14 hsy14); clear hka hb14
       clear hsz14 hsy14
       clear f6
       rw [s2] at hO14
       rw [s1, s2]
       have hTn : (mC F gv F.rt).zs.length ≤ 1048576 := hFn
       have hTm : (mC F gv F.rt).nm.size ≤ 1048576 := hFm
       obtain ⟨T, hT⟩ : ∃ Z, Z = mC F gv F.rt := ⟨_, rfl⟩
       rw [← hT] at hTn hTm s3 s4 hO14 ⊢
       clear hT s1 s2
       have HI14 := Lib.hid hO14.ints
       clear hO14
       go_upto_region 19 with (refine wpList_store_blk (cs := #[.int .i64 T.dg, .int .i64 T.tn, .string T.nm, .slice A14 T.zs.length c14, .int .i64 T.wd, .int .i64 T.lf, .int .i64 T.rt]) 30 _ _ _ (Blk.new _ _ _) (by kernel_rfl) rfl (by simp [Value.oneCell']) rfl rfl rfl rfl ?_)
       rw [World.setRow_alloc_new]
       have HT := Lib.hid (by have h := Blk.new w14 30 #[.int .i64 T.dg, .int .i64 T.tn, .string T.nm, .slice A14 T.zs.length c14, .int .i64 T.wd, .int .i64 T.lf, .int .i64 T.rt]; (try simp only [World.size_alloc] at h); exact h)
       replace HA := Lib.hid (Byts.alloc (.cells #[.int .i64 T.dg, .int .i64 T.tn, .string T.nm, .slice A14 T.zs.length c14, .int .i64 T.wd, .int .i64 T.lf, .int .i64 T.rt] 30) HA.out)
       replace HI := Lib.hid (Ints.alloc (.cells #[.int .i64 T.dg, .int .i64 T.tn, .string T.nm, .slice A14 T.zs.length c14, .int .i64 T.wd, .int .i64 T.lf, .int .i64 T.rt] 30) HI.out)
       replace HM := Lib.hid (Ints.alloc (.cells #[.int .i64 T.dg, .int .i64 T.tn, .string T.nm, .slice A14 T.zs.length c14, .int .i64 T.wd, .int .i64 T.lf, .int .i64 T.rt] 30) HM.out)
       replace HU := Lib.hid (Prs.alloc (.cells #[.int .i64 T.dg, .int .i64 T.tn, .string T.nm, .slice A14 T.zs.length c14, .int .i64 T.wd, .int .i64 T.lf, .int .i64 T.rt] 30) HU.out)
       replace HV := Lib.hid (Prs.alloc (.cells #[.int .i64 T.dg, .int .i64 T.tn, .string T.nm, .slice A14 T.zs.length c14, .int .i64 T.wd, .int .i64 T.lf, .int .i64 T.rt] 30) HV.out)
       replace HR := Lib.hid (Blk.alloc (.cells #[.int .i64 T.dg, .int .i64 T.tn, .string T.nm, .slice A14 T.zs.length c14, .int .i64 T.wd, .int .i64 T.lf, .int .i64 T.rt] 30) HR.out)
       replace HIF := Lib.hid (Ints.alloc (.cells #[.int .i64 T.dg, .int .i64 T.tn, .string T.nm, .slice A14 T.zs.length c14, .int .i64 T.wd, .int .i64 T.lf, .int .i64 T.rt] 30) HIF.out)
       replace HF := Lib.hid (Blk.alloc (.cells #[.int .i64 T.dg, .int .i64 T.tn, .string T.nm, .slice A14 T.zs.length c14, .int .i64 T.wd, .int .i64 T.lf, .int .i64 T.rt] 30) HF.out)
       replace HP := Lib.hid (Blk.alloc (.cells #[.int .i64 T.dg, .int .i64 T.tn, .string T.nm, .slice A14 T.zs.length c14, .int .i64 T.wd, .int .i64 T.lf, .int .i64 T.rt] 30) HP.out)
       replace HQ := Lib.hid (Blk.alloc (.cells #[.int .i64 T.dg, .int .i64 T.tn, .string T.nm, .slice A14 T.zs.length c14, .int .i64 T.wd, .int .i64 T.lf, .int .i64 T.rt] 30) HQ.out)
       replace HIU := Lib.hid (Ints.alloc (.cells #[.int .i64 T.dg, .int .i64 T.tn, .string T.nm, .slice A14 T.zs.length c14, .int .i64 T.wd, .int .i64 T.lf, .int .i64 T.rt] 30) HIU.out)
       replace HIK := Lib.hid (Ints.alloc (.cells #[.int .i64 T.dg, .int .i64 T.tn, .string T.nm, .slice A14 T.zs.length c14, .int .i64 T.wd, .int .i64 T.lf, .int .i64 T.rt] 30) HIK.out)
       replace HSS := Lib.hid (Prs.alloc (.cells #[.int .i64 T.dg, .int .i64 T.tn, .string T.nm, .slice A14 T.zs.length c14, .int .i64 T.wd, .int .i64 T.lf, .int .i64 T.rt] 30) HSS.out)
       replace HTT := Lib.hid (Prs.alloc (.cells #[.int .i64 T.dg, .int .i64 T.tn, .string T.nm, .slice A14 T.zs.length c14, .int .i64 T.wd, .int .i64 T.lf, .int .i64 T.rt] 30) HTT.out)
       replace HCU := Lib.hid (Blk.alloc (.cells #[.int .i64 T.dg, .int .i64 T.tn, .string T.nm, .slice A14 T.zs.length c14, .int .i64 T.wd, .int .i64 T.lf, .int .i64 T.rt] 30) HCU.out)
       replace HCK := Lib.hid (Blk.alloc (.cells #[.int .i64 T.dg, .int .i64 T.tn, .string T.nm, .slice A14 T.zs.length c14, .int .i64 T.wd, .int .i64 T.lf, .int .i64 T.rt] 30) HCK.out)
       replace HI14 := Lib.hid (Ints.alloc (.cells #[.int .i64 T.dg, .int .i64 T.tn, .string T.nm, .slice A14 T.zs.length c14, .int .i64 T.wd, .int .i64 T.lf, .int .i64 T.rt] 30) HI14.out)
       replace HB := Lib.hid (Bel.alloc HB.out (.cells #[.int .i64 T.dg, .int .i64 T.tn, .string T.nm, .slice A14 T.zs.length c14, .int .i64 T.wd, .int .i64 T.lf, .int .i64 T.rt] 30))
       go_wp2_with (first | (refine wpList_load_blkG 30 _ _ (Blk.step (zb0 HB) HT.out) Tryz.underlying30 (by kernel_rfl) rfl rfl (by rfl) ?_) | (refine wpList_load_blkG 25 _ _ (Blk.step (zb0 HB) HP.out) Tryz.underlying25 (by kernel_rfl) rfl rfl (by rfl) ?_) | (refine wpList_load_blkG 25 _ _ (Blk.step (zb0 HB) HQ.out) Tryz.underlying25 (by kernel_rfl) rfl rfl (by rfl) ?_))
       go_at_call 39; refine (ChartHeight_I T A14 c14 0 pd pt sd st hTn hTm _ (by repeat (with_reducible first | exact HI14.out | assumption | refine Ints.drew ?_ | refine Ints.drewN _ ?_ | refine Ints.alloc _ ?_ | refine Ints.step (by assumption) ?_))).mono ?_; rintro e w15 ⟨rfl, hb15⟩; have hka := zba HB hb15; (try replace HA := yY hb15 hka HA); (try replace HI := yI hb15 hka HI); (try replace HM := yI hb15 hka HM); (try replace HU := yR hb15 hka HU); (try replace HV := yR hb15 hka HV); (try replace HR := yB hb15 hka HR); (try replace HIF := yI hb15 hka HIF); (try replace HF := yB hb15 hka HF); (try replace HP := yB hb15 hka HP); (try replace HQ := yB hb15 hka HQ); (try replace HIU := yI hb15 hka HIU); (try replace HIK := yI hb15 hka HIK); (try replace HSS := yR hb15 hka HSS); (try replace HTT := yR hb15 hka HTT); (try replace HCU := yB hb15 hka HCU); (try replace HCK := yB hb15 hka HCK); (try replace HI14 := yI hb15 hka HI14); (try replace HT := yB hb15 hka HT); replace HB := Lib.hid (Bel.step hb15 (Bel.step hka HB.out)); have hsz15 := hb15.size; have hsy15 := hka.size; (try simp only [World.size_alloc, World.size_drew, World.heap_drewN, World.size_setCell] at hsz15 hsy15); clear hka hb15
       clear hsz15 hsy15
       rw [s3]
       obtain ⟨h1, hh1⟩ : ∃ k, k = chV T 0 pd pt sd st := ⟨_, rfl⟩
       rw [← hh1] at s4 ⊢
       clear hh1 hTn hTm s3 HT HI14
       go_upto_region 22 with (fail)
       obtain ⟨W, rfl⟩ : ∃ U : World, U = w15 := ⟨_, rfl⟩)
  all_goals
    clear HF HP HQ HIF
    by_cases hkq : kq = 0
    all_goals first
      | (have hkqb : (kq == 0) = false := by simpa using hkq
         go_upto_region 26 with (fail))
      | (obtain ⟨s1, s2, s3, s4⟩ := HCM.out hkq
         subst hkq
         go_wp2_with (first | (refine wpList_load_blkG 30 _ _ (Blk.step (zb0 HB) HCU.out) Tryz.underlying30 (by kernel_rfl) rfl rfl (by rfl) ?_) | (refine wpList_load_blkG 30 _ _ (Blk.step (zb0 HB) HCK.out) Tryz.underlying30 (by kernel_rfl) rfl rfl (by rfl) ?_))
         go_at_call 36; refine (CompareLayouts_I K (some ⟨gk, 0, none⟩) qk U (some ⟨gu, 0, none⟩) qu GS cs ss GT ct ts ek hKn hKm hUn hUm hss hts _ (by repeat (with_reducible first | exact HIK.out | assumption | refine Ints.drew ?_ | refine Ints.drewN _ ?_ | refine Ints.alloc _ ?_ | refine Ints.step (by assumption) ?_)) (by repeat (with_reducible first | exact HIU.out | assumption | refine Ints.drew ?_ | refine Ints.drewN _ ?_ | refine Ints.alloc _ ?_ | refine Ints.step (by assumption) ?_)) (by repeat (with_reducible first | exact HSS.out | assumption | refine Prs.drew ?_ | refine Prs.drewN _ ?_ | refine Prs.alloc _ ?_ | refine Prs.step (by assumption) ?_)) (by repeat (with_reducible first | exact HTT.out | assumption | refine Prs.drew ?_ | refine Prs.drewN _ ?_ | refine Prs.alloc _ ?_ | refine Prs.step (by assumption) ?_))).mono ?_; rintro e w16 ⟨rfl, hb16⟩; have hka := zba HB hb16; (try replace HA := yY hb16 hka HA); (try replace HI := yI hb16 hka HI); (try replace HM := yI hb16 hka HM); (try replace HU := yR hb16 hka HU); (try replace HV := yR hb16 hka HV); (try replace HR := yB hb16 hka HR); (try replace HIU := yI hb16 hka HIU); (try replace HIK := yI hb16 hka HIK); (try replace HSS := yR hb16 hka HSS); (try replace HTT := yR hb16 hka HTT); (try replace HCU := yB hb16 hka HCU); (try replace HCK := yB hb16 hka HCK); replace HB := Lib.hid (Bel.step hb16 (Bel.step hka HB.out)); have hsz16 := hb16.size; have hsy16 := hka.size; (try simp only [World.size_alloc, World.size_drew, World.heap_drewN, World.size_setCell] at hsz16 hsy16); clear hka hb16
         clear hsz16 hsy16
         rw [s1, s2]
         clear s1 s2
         go_upto_region 26 with (fail)
         obtain ⟨W, rfl⟩ : ∃ U : World, U = w16 := ⟨_, rfl⟩)
    all_goals
      clear HCU HCK HIU HIK HSS HTT
      by_cases hkb : kb = 0
      rotate_left
      · have hkbb : (kb != 0) = true := by simpa using hkb
        go_wp2
        go_ret
        exact ⟨rfl, HB.out⟩
      obtain ⟨s1, s2, s3, s4, s5, l1, l2, hall⟩ := HBE.out hkb
      subst hkb
      have HALL := Lib.hid hall
      clear hall
      go_wp2_with (first | (refine wpList_load_blkG 30 _ _ (Blk.step (zb0 HB) HR.out) Tryz.underlying30 (by kernel_rfl) rfl rfl (by rfl) ?_))
      go_at_call 30; refine (WithModuli_I C (some ⟨g, 0, none⟩) q v1 v2 hn hm _ (by repeat (with_reducible first | exact HI.out | assumption | refine Ints.drew ?_ | refine Ints.drewN _ ?_ | refine Ints.alloc _ ?_ | refine Ints.step (by assumption) ?_))).mono ?_; rintro e w20 ⟨A20, c20, rfl, hO20, hb20⟩; have hka := zba HB hb20; (try replace HA := yY hb20 hka HA); (try replace HI := yI hb20 hka HI); (try replace HM := yI hb20 hka HM); (try replace HU := yR hb20 hka HU); (try replace HV := yR hb20 hka HV); (try replace HR := yB hb20 hka HR); replace HB := Lib.hid (Bel.step hb20 (Bel.step hka HB.out)); have hsz20 := hb20.size; have hsy20 := hka.size; (try simp only [World.size_alloc, World.size_drew, World.heap_drewN, World.size_setCell] at hsz20 hsy20); clear hka hb20
      clear hsz20 hsy20
      rw [s2] at hO20
      rw [s1, s2]
      have hTn : (mC C v1 v2).zs.length ≤ 1048576 := hn
      have hTm : (mC C v1 v2).nm.size ≤ 1048576 := hm
      obtain ⟨T, hT⟩ : ∃ Z, Z = mC C v1 v2 := ⟨_, rfl⟩
      rw [← hT] at hTn hTm s3 s4 s5 hO20 ⊢
      replace HALL := Lib.hid HALL.out
      rw [← hT] at HALL
      clear hT s1 s2
      have HI20 := Lib.hid hO20.ints
      clear hO20
      go_upto_region 29 with (refine wpList_store_blk (cs := #[.int .i64 T.dg, .int .i64 T.tn, .string T.nm, .slice A20 T.zs.length c20, .int .i64 T.wd, .int .i64 T.lf, .int .i64 T.rt]) 30 _ _ _ (Blk.new _ _ _) (by kernel_rfl) rfl (by simp [Value.oneCell']) rfl rfl rfl rfl ?_)
      rw [World.setRow_alloc_new]
      have HT := Lib.hid (by have h := Blk.new w20 30 #[.int .i64 T.dg, .int .i64 T.tn, .string T.nm, .slice A20 T.zs.length c20, .int .i64 T.wd, .int .i64 T.lf, .int .i64 T.rt]; (try simp only [World.size_alloc] at h); exact h)
      replace HA := Lib.hid (Byts.alloc (.cells #[.int .i64 T.dg, .int .i64 T.tn, .string T.nm, .slice A20 T.zs.length c20, .int .i64 T.wd, .int .i64 T.lf, .int .i64 T.rt] 30) HA.out)
      replace HI := Lib.hid (Ints.alloc (.cells #[.int .i64 T.dg, .int .i64 T.tn, .string T.nm, .slice A20 T.zs.length c20, .int .i64 T.wd, .int .i64 T.lf, .int .i64 T.rt] 30) HI.out)
      replace HM := Lib.hid (Ints.alloc (.cells #[.int .i64 T.dg, .int .i64 T.tn, .string T.nm, .slice A20 T.zs.length c20, .int .i64 T.wd, .int .i64 T.lf, .int .i64 T.rt] 30) HM.out)
      replace HU := Lib.hid (Prs.alloc (.cells #[.int .i64 T.dg, .int .i64 T.tn, .string T.nm, .slice A20 T.zs.length c20, .int .i64 T.wd, .int .i64 T.lf, .int .i64 T.rt] 30) HU.out)
      replace HV := Lib.hid (Prs.alloc (.cells #[.int .i64 T.dg, .int .i64 T.tn, .string T.nm, .slice A20 T.zs.length c20, .int .i64 T.wd, .int .i64 T.lf, .int .i64 T.rt] 30) HV.out)
      replace HR := Lib.hid (Blk.alloc (.cells #[.int .i64 T.dg, .int .i64 T.tn, .string T.nm, .slice A20 T.zs.length c20, .int .i64 T.wd, .int .i64 T.lf, .int .i64 T.rt] 30) HR.out)
      replace HI20 := Lib.hid (Ints.alloc (.cells #[.int .i64 T.dg, .int .i64 T.tn, .string T.nm, .slice A20 T.zs.length c20, .int .i64 T.wd, .int .i64 T.lf, .int .i64 T.rt] 30) HI20.out)
      replace HB := Lib.hid (Bel.alloc HB.out (.cells #[.int .i64 T.dg, .int .i64 T.tn, .string T.nm, .slice A20 T.zs.length c20, .int .i64 T.wd, .int .i64 T.lf, .int .i64 T.rt] 30))
      generalize (w20.alloc (.cells #[.int .i64 T.dg, .int .i64 T.tn, .string T.nm, .slice A20 T.zs.length c20, .int .i64 T.wd, .int .i64 T.lf, .int .i64 T.rt] 30)) = v20 at HA HI HM HU HV HR HI20 HT HB ⊢
      go_wp2_with fail
      go_at_call 40; refine (roll_c A c zs hz 2602 _ HA.out).mono ?_; rintro e w21 ⟨X, rfl, hX, hD, hb21⟩
      clear HA
      go_upto_region 30 with (fail)
      apply cut_M
      · intro key
        refine wp_region_held_drew (S := fun W => Blk W w1.heap.size 30 #[.int .i64 C.dg, .int .i64 C.tn, .string C.nm, .slice (some ⟨g, 0, none⟩) C.zs.length q, .int .i64 C.wd, .int .i64 C.lf, .int .i64 C.rt] ∧ Ints W (some ⟨gm, 0, none⟩) ms) (by kernel_rfl) (⟨(Blk.step hb21 HR.out).drew, (Ints.step hb21 HM.out).drew⟩) (fun hHeld => ?_)
        have hbx := Below.drew hb21
        have hDx := hD.drew
        generalize w21.drew = v22 at hbx hDx hHeld ⊢
        refine wpAnyH_take (i := 0) (v := .agg #[.int .i64 C.dg, .int .i64 C.tn, .string C.nm, .slice (some ⟨g, 0, none⟩) C.zs.length q, .int .i64 C.wd, .int .i64 C.lf, .int .i64 C.rt]) rfl (by kernel_rfl) (by kernel_rfl) (by kernel_rfl) (fun _ _ _ h => h) (yieldsIf_load_blk 30 _ (w1.heap.size) (fun _ h => h.1) Tryz.underlying30 (by kernel_rfl) (by rfl) rfl rfl) hHeld ?_
        simp only [Act.put, List.getElem_toArray, List.getElem_cons_succ, List.getElem_cons_zero, List.setIfInBounds_toArray, List.set_cons_zero, List.set_cons_succ]
        refine wpAnyH_take (i := 1) (v := (.slice (some ⟨gm, 0, none⟩) ms.length cm)) rfl (by kernel_rfl) (by kernel_rfl) (by kernel_rfl) (fun _ _ _ h => h) (Or.inl ⟨by rfl, fun w _ => by simp [go_sem, execOp]⟩) hHeld ?_
        simp only [Act.put, List.getElem_toArray, List.getElem_cons_succ, List.getElem_cons_zero, List.setIfInBounds_toArray, List.set_cons_zero, List.set_cons_succ]
        refine wpAnyH_take (i := 2) (v := (.pointer (some ⟨X, 0, none⟩))) rfl (by kernel_rfl) (by kernel_rfl) (by kernel_rfl) (fun _ _ _ h => h) (Or.inl ⟨by rfl, fun w _ => by simp [go_sem, execOp]⟩) hHeld ?_
        simp only [Act.put, List.getElem_toArray, List.getElem_cons_succ, List.getElem_cons_zero, List.setIfInBounds_toArray, List.set_cons_zero, List.set_cons_succ]
        refine wpAnyH_take (i := 3) (v := (.slice (some ⟨gm, 0, none⟩) ms.length cm)) rfl (by kernel_rfl) (by kernel_rfl) (by kernel_rfl) (fun _ _ _ h => h) (Or.inl ⟨by rfl, fun w _ => by simp [go_sem, execOp]⟩) hHeld ?_
        simp only [Act.put, List.getElem_toArray, List.getElem_cons_succ, List.getElem_cons_zero, List.setIfInBounds_toArray, List.set_cons_zero, List.set_cons_succ]
        refine wpAnyH_take (i := 4) (v := (.int .i64 ms.length)) rfl (by kernel_rfl) (by kernel_rfl) (by kernel_rfl) (fun _ _ _ h => h) (Or.inl ⟨by rfl, fun w _ => by simp [go_sem, execOp]⟩) hHeld ?_
        simp only [Act.put, List.getElem_toArray, List.getElem_cons_succ, List.getElem_cons_zero, List.setIfInBounds_toArray, List.set_cons_zero, List.set_cons_succ]
        refine wpAnyH_take (i := 8) (v := (.slice (some ⟨gm, 0, none⟩) ms.length cm)) rfl (by kernel_rfl) (by kernel_rfl) (by kernel_rfl) (fun _ _ _ h => h) (Or.inl ⟨by rfl, fun w _ => by simp [go_sem, execOp]⟩) hHeld ?_
        simp only [Act.put, List.getElem_toArray, List.getElem_cons_succ, List.getElem_cons_zero, List.setIfInBounds_toArray, List.set_cons_zero, List.set_cons_succ]
        refine wpAnyH_take (i := 9) (v := (.pointer (some ⟨X, 0, none⟩))) rfl (by kernel_rfl) (by kernel_rfl) (by kernel_rfl) (fun _ _ _ h => h) (Or.inl ⟨by rfl, fun w _ => by simp [go_sem, execOp]⟩) hHeld ?_
        simp only [Act.put, List.getElem_toArray, List.getElem_cons_succ, List.getElem_cons_zero, List.setIfInBounds_toArray, List.set_cons_zero, List.set_cons_succ]
        refine wpAnyH_take (i := 10) (v := (.slice (some ⟨gm, 0, none⟩) ms.length cm)) rfl (by kernel_rfl) (by kernel_rfl) (by kernel_rfl) (fun _ _ _ h => h) (Or.inl ⟨by rfl, fun w _ => by simp [go_sem, execOp]⟩) hHeld ?_
        simp only [Act.put, List.getElem_toArray, List.getElem_cons_succ, List.getElem_cons_zero, List.setIfInBounds_toArray, List.set_cons_zero, List.set_cons_succ]
        refine wpAnyH_take (i := 11) (v := (.int .i64 ms.length)) rfl (by kernel_rfl) (by kernel_rfl) (by kernel_rfl) (fun _ _ _ h => h) (Or.inl ⟨by rfl, fun w _ => by simp [go_sem, execOp]⟩) hHeld ?_
        simp only [Act.put, List.getElem_toArray, List.getElem_cons_succ, List.getElem_cons_zero, List.setIfInBounds_toArray, List.set_cons_zero, List.set_cons_succ]
        have hsz : v20.heap.size ≤ v22.heap.size := hbx.size
        refine wpAnyH_ready (rs := [5, 19]) (by kernel_rfl) (by simp) ?_
        refine AllReadyH.cons rfl (fun K hK => ?_) (AllReadyH.cons rfl (fun K hK => ?_) (AllReadyH.nil))
        · skip
          go_simp
          go_at_call 41; refine (below_c X A zs ms.length (by omega) (by omega) _ hDx).mono ?_; rintro e w101 ⟨d1, rfl, hd0, hd1, hD2, hk2⟩
          replace hbx := Kp.bel hk2 hX hsz hbx
          replace hsz := Nat.le_trans hsz hk2.size_
          clear hDx hk2
          have hDx := hD2
          clear hD2
          obtain ⟨ia, rfl⟩ : ∃ k : Nat, d1 = k := ⟨d1.toNat, by omega⟩
          have hia : ia < ms.length := by omega
          have hiai : (ia : Int) < ms.length := by omega
          obtain ⟨ma, hma⟩ : ∃ k, k = ms.getD ia 0 := ⟨_, rfl⟩
          have HMa := Lib.hid hma
          have hina : ma ∈ ms := by rw [hma, List.getD_eq_getElem?_getD, List.getElem?_eq_getElem hia]; exact List.getElem_mem _
          clear hma hd0 hd1
          refine hK.out _ _ (⟨Blk.step hbx HR.out, Ints.step hbx HM.out⟩) (fun hHeld => ?_)
          clear hK K
          try simp only [Act.put, List.setIfInBounds_toArray, List.set_cons_zero, List.set_cons_succ]
          refine wpAnyH_take (i := 6) (v := (.pointer (some ⟨gm, ia, none⟩))) rfl (by kernel_rfl) (by kernel_rfl) (by kernel_rfl) (fun _ _ _ h => h) (Or.inl ⟨by rfl, fun w' h => by simp [go_sem, execOp, hiai, hia]⟩) hHeld ?_
          simp only [Act.put, List.getElem_toArray, List.getElem_cons_succ, List.getElem_cons_zero, List.setIfInBounds_toArray, List.set_cons_zero, List.set_cons_succ]
          refine wpAnyH_take (i := 7) (v := (.int .i64 ma)) rfl (by kernel_rfl) (by kernel_rfl) (by kernel_rfl) (fun _ _ _ h => h) (Or.inl ⟨by rfl, fun w' h => by have q := h.2.cell ia hia; rw [← HMa.out] at q; simp [go_sem, execOp, q]⟩) hHeld ?_
          simp only [Act.put, List.getElem_toArray, List.getElem_cons_succ, List.getElem_cons_zero, List.setIfInBounds_toArray, List.set_cons_zero, List.set_cons_succ]
          refine wpAnyH_ready (rs := [12, 19]) (by kernel_rfl) (by simp) ?_
          refine AllReadyH.cons rfl (fun K hK => ?_) (AllReadyH.cons rfl (fun K hK => ?_) (AllReadyH.nil))
          · skip
            go_simp
            go_at_call 41; refine (below_c X A zs ms.length (by omega) (by omega) _ hDx).mono ?_; rintro e w102 ⟨d1, rfl, hd0, hd1, hD2, hk2⟩
            replace hbx := Kp.bel hk2 hX hsz hbx
            replace hsz := Nat.le_trans hsz hk2.size_
            clear hDx hk2
            clear hD2
            obtain ⟨ib, rfl⟩ : ∃ k : Nat, d1 = k := ⟨d1.toNat, by omega⟩
            have hib : ib < ms.length := by omega
            have hibi : (ib : Int) < ms.length := by omega
            obtain ⟨mb, hmb⟩ : ∃ k, k = ms.getD ib 0 := ⟨_, rfl⟩
            have HMb := Lib.hid hmb
            have hinb : mb ∈ ms := by rw [hmb, List.getD_eq_getElem?_getD, List.getElem?_eq_getElem hib]; exact List.getElem_mem _
            clear hmb hd0 hd1
            refine hK.out _ _ (⟨Blk.step hbx HR.out, Ints.step hbx HM.out⟩) (fun hHeld => ?_)
            clear hK K
            try simp only [Act.put, List.setIfInBounds_toArray, List.set_cons_zero, List.set_cons_succ]
            refine wpAnyH_take (i := 13) (v := (.pointer (some ⟨gm, ib, none⟩))) rfl (by kernel_rfl) (by kernel_rfl) (by kernel_rfl) (fun _ _ _ h => h) (Or.inl ⟨by rfl, fun w' h => by simp [go_sem, execOp, hibi, hib]⟩) hHeld ?_
            simp only [Act.put, List.getElem_toArray, List.getElem_cons_succ, List.getElem_cons_zero, List.setIfInBounds_toArray, List.set_cons_zero, List.set_cons_succ]
            refine wpAnyH_take (i := 14) (v := (.int .i64 mb)) rfl (by kernel_rfl) (by kernel_rfl) (by kernel_rfl) (fun _ _ _ h => h) (Or.inl ⟨by rfl, fun w' h => by have q := h.2.cell ib hib; rw [← HMb.out] at q; simp [go_sem, execOp, q]⟩) hHeld ?_
            simp only [Act.put, List.getElem_toArray, List.getElem_cons_succ, List.getElem_cons_zero, List.setIfInBounds_toArray, List.set_cons_zero, List.set_cons_succ]
            refine wpAnyH_ready (rs := [15, 19]) (by kernel_rfl) (by simp) ?_
            refine AllReadyH.cons rfl (fun K hK => ?_) (AllReadyH.cons rfl (fun K hK => ?_) (AllReadyH.nil))
            · skip
              go_simp
              obtain ⟨r1, r2, r3⟩ := HALL.out ma mb hina hinb
              go_at_call 30; refine (WithModuli_I C (some ⟨g, 0, none⟩) q ma mb hn hm _ (Ints.step hbx HI.out)).mono ?_; rintro e w103 ⟨A25, c25, rfl, hO, hb2⟩
              rw [r2] at hO
              rw [r1, r2]
              clear r1 r2 r3
              have HO := Own.ge_mono hO hsz
              replace hbx := Bel.step hb2 hbx
              replace hsz := Nat.le_trans hsz hb2.size
              clear hO hb2
              refine hK.out _ _ (⟨Blk.step hbx HR.out, Ints.step hbx HM.out⟩) (fun hHeld => ?_)
              clear hK K
              try simp only [Act.put, List.setIfInBounds_toArray, List.set_cons_zero, List.set_cons_succ]
              refine wpAnyH_take (i := 16) (v := (.tuple #[.agg #[.int .i64 (mC C ma mb).dg, .int .i64 (mC C ma mb).tn, .string (mC C ma mb).nm, .slice A25 (mC C ma mb).zs.length c25, .int .i64 (mC C ma mb).wd, .int .i64 (mC C ma mb).lf, .int .i64 (mC C ma mb).rt], .int .i64 0])) rfl (by kernel_rfl) (by kernel_rfl) (by kernel_rfl) (fun _ _ _ h => h) (Or.inl ⟨by rfl, fun w _ => by simp [go_sem, execOp]⟩) hHeld ?_
              simp only [Act.put, List.getElem_toArray, List.getElem_cons_succ, List.getElem_cons_zero, List.setIfInBounds_toArray, List.set_cons_zero, List.set_cons_succ]
              refine wpAnyH_take (i := 17) (v := (.agg #[.int .i64 (mC C ma mb).dg, .int .i64 (mC C ma mb).tn, .string (mC C ma mb).nm, .slice A25 (mC C ma mb).zs.length c25, .int .i64 (mC C ma mb).wd, .int .i64 (mC C ma mb).lf, .int .i64 (mC C ma mb).rt])) rfl (by kernel_rfl) (by kernel_rfl) (by kernel_rfl) (fun _ _ _ h => h) (Or.inl ⟨by rfl, fun w _ => by simp [go_sem, execOp]⟩) hHeld ?_
              simp only [Act.put, List.getElem_toArray, List.getElem_cons_succ, List.getElem_cons_zero, List.setIfInBounds_toArray, List.set_cons_zero, List.set_cons_succ]
              refine wpAnyH_take (i := 18) (v := (.int .i64 0)) rfl (by kernel_rfl) (by kernel_rfl) (by kernel_rfl) (fun _ _ _ h => h) (Or.inl ⟨by rfl, fun w _ => by simp [go_sem, execOp]⟩) hHeld ?_
              simp only [Act.put, List.getElem_toArray, List.getElem_cons_succ, List.getElem_cons_zero, List.setIfInBounds_toArray, List.set_cons_zero, List.set_cons_succ]
              refine wpAnyH_ready (rs := [19]) (by kernel_rfl) (by simp) ?_
              refine AllReadyH.cons rfl (fun K hK => ?_) (AllReadyH.nil)
              · skip
                go_simp
                refine hK.out _ _ (⟨Blk.alloc _ hHeld.1, Ints.alloc _ hHeld.2⟩) (fun hHeld => ?_)
                clear hK K
                try simp only [Act.put, List.setIfInBounds_toArray, List.set_cons_zero, List.set_cons_succ]
                have HN := Blk.new w103 30 #[.int .i64 0, .int .i64 0, .string ⟨#[]⟩, .slice none 0 0, .int .i64 0, .int .i64 0, .int .i64 0]
                have hlo : v20.heap.size ≤ w103.heap.size := hsz
                replace hbx : Below v20.heap.size v20 (w103.alloc (.cells #[.int .i64 0, .int .i64 0, .string ⟨#[]⟩, .slice none 0 0, .int .i64 0, .int .i64 0, .int .i64 0] 30)) := Bel.alloc hbx _
                replace hsz : v20.heap.size ≤ (w103.alloc (.cells #[.int .i64 0, .int .i64 0, .string ⟨#[]⟩, .slice none 0 0, .int .i64 0, .int .i64 0, .int .i64 0] 30)).heap.size := by simp only [World.size_alloc]; omega
                have hox : (Value.slice A25 (mC C ma mb).zs.length c25).ownBlock ≠ some w103.heap.size := own_btwM HO (Or.inr (Nat.le_refl _))
                replace HO := Own.alloc (.cells #[.int .i64 0, .int .i64 0, .string ⟨#[]⟩, .slice none 0 0, .int .i64 0, .int .i64 0, .int .i64 0] 30) HO
                generalize (w103.alloc (.cells #[.int .i64 0, .int .i64 0, .string ⟨#[]⟩, .slice none 0 0, .int .i64 0, .int .i64 0, .int .i64 0] 30)) = w104 at hHeld hbx hsz HN hlo HO ⊢
                generalize w103.heap.size = a at HN hlo hox ⊢
                have hall := And.intro hHeld (And.intro hbx (And.intro HN (And.intro hlo (And.intro HO (And.intro hox (And.intro hina hinb))))))
                clear hsz hHeld hbx HN hlo HO hox hina hinb HMa HMb hia hib hiai hibi
                revert hall
                revert w104 a A25 c25 ma mb ia ib
                exact key.out
            · skip
              go_simp
              refine hK.out _ _ (⟨Blk.alloc _ hHeld.1, Ints.alloc _ hHeld.2⟩) (fun hHeld => ?_)
              clear hK K
              try simp only [Act.put, List.setIfInBounds_toArray, List.set_cons_zero, List.set_cons_succ]
              have HN := Blk.new w102 30 #[.int .i64 0, .int .i64 0, .string ⟨#[]⟩, .slice none 0 0, .int .i64 0, .int .i64 0, .int .i64 0]
              have hlo : v20.heap.size ≤ w102.heap.size := hsz
              replace hbx : Below v20.heap.size v20 (w102.alloc (.cells #[.int .i64 0, .int .i64 0, .string ⟨#[]⟩, .slice none 0 0, .int .i64 0, .int .i64 0, .int .i64 0] 30)) := Bel.alloc hbx _
              replace hsz : v20.heap.size ≤ (w102.alloc (.cells #[.int .i64 0, .int .i64 0, .string ⟨#[]⟩, .slice none 0 0, .int .i64 0, .int .i64 0, .int .i64 0] 30)).heap.size := by simp only [World.size_alloc]; omega
              generalize (w102.alloc (.cells #[.int .i64 0, .int .i64 0, .string ⟨#[]⟩, .slice none 0 0, .int .i64 0, .int .i64 0, .int .i64 0] 30)) = w105 at hHeld hbx hsz HN hlo ⊢
              generalize w102.heap.size = a at HN hlo ⊢
              refine wpAnyH_ready (rs := [15]) (by kernel_rfl) (by simp) ?_
              refine AllReadyH.cons rfl (fun K hK => ?_) (AllReadyH.nil)
              · skip
                go_simp
                obtain ⟨r1, r2, r3⟩ := HALL.out ma mb hina hinb
                go_at_call 30; refine (WithModuli_I C (some ⟨g, 0, none⟩) q ma mb hn hm _ (Ints.step hbx HI.out)).mono ?_; rintro e w106 ⟨A25, c25, rfl, hO, hb2⟩
                rw [r2] at hO
                rw [r1, r2]
                clear r1 r2 r3
                have hox : (Value.slice A25 (mC C ma mb).zs.length c25).ownBlock ≠ some a := own_btwM hO (Or.inl HN.lt)
                replace HN := Blk.step hb2 HN
                have HO := Own.ge_mono hO hsz
                replace hbx := Bel.step hb2 hbx
                replace hsz := Nat.le_trans hsz hb2.size
                clear hO hb2
                refine hK.out _ _ (⟨Blk.step hbx HR.out, Ints.step hbx HM.out⟩) (fun hHeld => ?_)
                clear hK K
                try simp only [Act.put, List.setIfInBounds_toArray, List.set_cons_zero, List.set_cons_succ]
                refine wpAnyH_take (i := 16) (v := (.tuple #[.agg #[.int .i64 (mC C ma mb).dg, .int .i64 (mC C ma mb).tn, .string (mC C ma mb).nm, .slice A25 (mC C ma mb).zs.length c25, .int .i64 (mC C ma mb).wd, .int .i64 (mC C ma mb).lf, .int .i64 (mC C ma mb).rt], .int .i64 0])) rfl (by kernel_rfl) (by kernel_rfl) (by kernel_rfl) (fun _ _ _ h => h) (Or.inl ⟨by rfl, fun w _ => by simp [go_sem, execOp]⟩) hHeld ?_
                simp only [Act.put, List.getElem_toArray, List.getElem_cons_succ, List.getElem_cons_zero, List.setIfInBounds_toArray, List.set_cons_zero, List.set_cons_succ]
                refine wpAnyH_take (i := 17) (v := (.agg #[.int .i64 (mC C ma mb).dg, .int .i64 (mC C ma mb).tn, .string (mC C ma mb).nm, .slice A25 (mC C ma mb).zs.length c25, .int .i64 (mC C ma mb).wd, .int .i64 (mC C ma mb).lf, .int .i64 (mC C ma mb).rt])) rfl (by kernel_rfl) (by kernel_rfl) (by kernel_rfl) (fun _ _ _ h => h) (Or.inl ⟨by rfl, fun w _ => by simp [go_sem, execOp]⟩) hHeld ?_
                simp only [Act.put, List.getElem_toArray, List.getElem_cons_succ, List.getElem_cons_zero, List.setIfInBounds_toArray, List.set_cons_zero, List.set_cons_succ]
                refine wpAnyH_take (i := 18) (v := (.int .i64 0)) rfl (by kernel_rfl) (by kernel_rfl) (by kernel_rfl) (fun _ _ _ h => h) (Or.inl ⟨by rfl, fun w _ => by simp [go_sem, execOp]⟩) hHeld ?_
                simp only [Act.put, List.getElem_toArray, List.getElem_cons_succ, List.getElem_cons_zero, List.setIfInBounds_toArray, List.set_cons_zero, List.set_cons_succ]
                exact key.out _ _ _ _ _ _ _ _ (And.intro hHeld (And.intro hbx (And.intro HN (And.intro hlo (And.intro HO (And.intro hox (And.intro hina hinb)))))))
          · skip
            go_simp
            refine hK.out _ _ (⟨Blk.alloc _ hHeld.1, Ints.alloc _ hHeld.2⟩) (fun hHeld => ?_)
            clear hK K
            try simp only [Act.put, List.setIfInBounds_toArray, List.set_cons_zero, List.set_cons_succ]
            have HN := Blk.new w101 30 #[.int .i64 0, .int .i64 0, .string ⟨#[]⟩, .slice none 0 0, .int .i64 0, .int .i64 0, .int .i64 0]
            have hlo : v20.heap.size ≤ w101.heap.size := hsz
            replace hbx : Below v20.heap.size v20 (w101.alloc (.cells #[.int .i64 0, .int .i64 0, .string ⟨#[]⟩, .slice none 0 0, .int .i64 0, .int .i64 0, .int .i64 0] 30)) := Bel.alloc hbx _
            replace hsz : v20.heap.size ≤ (w101.alloc (.cells #[.int .i64 0, .int .i64 0, .string ⟨#[]⟩, .slice none 0 0, .int .i64 0, .int .i64 0, .int .i64 0] 30)).heap.size := by simp only [World.size_alloc]; omega
            have hxa : w101.heap.size ≠ X := Nat.ne_of_gt hDx.lt
            replace hDx := Dic.alloc (.cells #[.int .i64 0, .int .i64 0, .string ⟨#[]⟩, .slice none 0 0, .int .i64 0, .int .i64 0, .int .i64 0] 30) hDx
            generalize (w101.alloc (.cells #[.int .i64 0, .int .i64 0, .string ⟨#[]⟩, .slice none 0 0, .int .i64 0, .int .i64 0, .int .i64 0] 30)) = w107 at hHeld hbx hsz HN hlo hDx ⊢
            generalize w101.heap.size = a at HN hlo hxa ⊢
            refine wpAnyH_ready (rs := [12]) (by kernel_rfl) (by simp) ?_
            refine AllReadyH.cons rfl (fun K hK => ?_) (AllReadyH.nil)
            · skip
              go_simp
              go_at_call 41; refine (below_c X A zs ms.length (by omega) (by omega) _ hDx).mono ?_; rintro e w108 ⟨d1, rfl, hd0, hd1, hD2, hk2⟩
              replace HN := Blk.kp hk2 hxa HN
              replace hbx := Kp.bel hk2 hX hsz hbx
              replace hsz := Nat.le_trans hsz hk2.size_
              clear hDx hk2
              clear hxa
              clear hD2
              obtain ⟨ib, rfl⟩ : ∃ k : Nat, d1 = k := ⟨d1.toNat, by omega⟩
              have hib : ib < ms.length := by omega
              have hibi : (ib : Int) < ms.length := by omega
              obtain ⟨mb, hmb⟩ : ∃ k, k = ms.getD ib 0 := ⟨_, rfl⟩
              have HMb := Lib.hid hmb
              have hinb : mb ∈ ms := by rw [hmb, List.getD_eq_getElem?_getD, List.getElem?_eq_getElem hib]; exact List.getElem_mem _
              clear hmb hd0 hd1
              refine hK.out _ _ (⟨Blk.step hbx HR.out, Ints.step hbx HM.out⟩) (fun hHeld => ?_)
              clear hK K
              try simp only [Act.put, List.setIfInBounds_toArray, List.set_cons_zero, List.set_cons_succ]
              refine wpAnyH_take (i := 13) (v := (.pointer (some ⟨gm, ib, none⟩))) rfl (by kernel_rfl) (by kernel_rfl) (by kernel_rfl) (fun _ _ _ h => h) (Or.inl ⟨by rfl, fun w' h => by simp [go_sem, execOp, hibi, hib]⟩) hHeld ?_
              simp only [Act.put, List.getElem_toArray, List.getElem_cons_succ, List.getElem_cons_zero, List.setIfInBounds_toArray, List.set_cons_zero, List.set_cons_succ]
              refine wpAnyH_take (i := 14) (v := (.int .i64 mb)) rfl (by kernel_rfl) (by kernel_rfl) (by kernel_rfl) (fun _ _ _ h => h) (Or.inl ⟨by rfl, fun w' h => by have q := h.2.cell ib hib; rw [← HMb.out] at q; simp [go_sem, execOp, q]⟩) hHeld ?_
              simp only [Act.put, List.getElem_toArray, List.getElem_cons_succ, List.getElem_cons_zero, List.setIfInBounds_toArray, List.set_cons_zero, List.set_cons_succ]
              refine wpAnyH_ready (rs := [15]) (by kernel_rfl) (by simp) ?_
              refine AllReadyH.cons rfl (fun K hK => ?_) (AllReadyH.nil)
              · skip
                go_simp
                obtain ⟨r1, r2, r3⟩ := HALL.out ma mb hina hinb
                go_at_call 30; refine (WithModuli_I C (some ⟨g, 0, none⟩) q ma mb hn hm _ (Ints.step hbx HI.out)).mono ?_; rintro e w109 ⟨A25, c25, rfl, hO, hb2⟩
                rw [r2] at hO
                rw [r1, r2]
                clear r1 r2 r3
                have hox : (Value.slice A25 (mC C ma mb).zs.length c25).ownBlock ≠ some a := own_btwM hO (Or.inl HN.lt)
                replace HN := Blk.step hb2 HN
                have HO := Own.ge_mono hO hsz
                replace hbx := Bel.step hb2 hbx
                replace hsz := Nat.le_trans hsz hb2.size
                clear hO hb2
                refine hK.out _ _ (⟨Blk.step hbx HR.out, Ints.step hbx HM.out⟩) (fun hHeld => ?_)
                clear hK K
                try simp only [Act.put, List.setIfInBounds_toArray, List.set_cons_zero, List.set_cons_succ]
                refine wpAnyH_take (i := 16) (v := (.tuple #[.agg #[.int .i64 (mC C ma mb).dg, .int .i64 (mC C ma mb).tn, .string (mC C ma mb).nm, .slice A25 (mC C ma mb).zs.length c25, .int .i64 (mC C ma mb).wd, .int .i64 (mC C ma mb).lf, .int .i64 (mC C ma mb).rt], .int .i64 0])) rfl (by kernel_rfl) (by kernel_rfl) (by kernel_rfl) (fun _ _ _ h => h) (Or.inl ⟨by rfl, fun w _ => by simp [go_sem, execOp]⟩) hHeld ?_
                simp only [Act.put, List.getElem_toArray, List.getElem_cons_succ, List.getElem_cons_zero, List.setIfInBounds_toArray, List.set_cons_zero, List.set_cons_succ]
                refine wpAnyH_take (i := 17) (v := (.agg #[.int .i64 (mC C ma mb).dg, .int .i64 (mC C ma mb).tn, .string (mC C ma mb).nm, .slice A25 (mC C ma mb).zs.length c25, .int .i64 (mC C ma mb).wd, .int .i64 (mC C ma mb).lf, .int .i64 (mC C ma mb).rt])) rfl (by kernel_rfl) (by kernel_rfl) (by kernel_rfl) (fun _ _ _ h => h) (Or.inl ⟨by rfl, fun w _ => by simp [go_sem, execOp]⟩) hHeld ?_
                simp only [Act.put, List.getElem_toArray, List.getElem_cons_succ, List.getElem_cons_zero, List.setIfInBounds_toArray, List.set_cons_zero, List.set_cons_succ]
                refine wpAnyH_take (i := 18) (v := (.int .i64 0)) rfl (by kernel_rfl) (by kernel_rfl) (by kernel_rfl) (fun _ _ _ h => h) (Or.inl ⟨by rfl, fun w _ => by simp [go_sem, execOp]⟩) hHeld ?_
                simp only [Act.put, List.getElem_toArray, List.getElem_cons_succ, List.getElem_cons_zero, List.setIfInBounds_toArray, List.set_cons_zero, List.set_cons_succ]
                exact key.out _ _ _ _ _ _ _ _ (And.intro hHeld (And.intro hbx (And.intro HN (And.intro hlo (And.intro HO (And.intro hox (And.intro hina hinb)))))))
        · skip
          go_simp
          refine hK.out _ _ (⟨Blk.alloc _ hHeld.1, Ints.alloc _ hHeld.2⟩) (fun hHeld => ?_)
          clear hK K
          try simp only [Act.put, List.setIfInBounds_toArray, List.set_cons_zero, List.set_cons_succ]
          have HN := Blk.new v22 30 #[.int .i64 0, .int .i64 0, .string ⟨#[]⟩, .slice none 0 0, .int .i64 0, .int .i64 0, .int .i64 0]
          have hlo : v20.heap.size ≤ v22.heap.size := hsz
          replace hbx : Below v20.heap.size v20 (v22.alloc (.cells #[.int .i64 0, .int .i64 0, .string ⟨#[]⟩, .slice none 0 0, .int .i64 0, .int .i64 0, .int .i64 0] 30)) := Bel.alloc hbx _
          replace hsz : v20.heap.size ≤ (v22.alloc (.cells #[.int .i64 0, .int .i64 0, .string ⟨#[]⟩, .slice none 0 0, .int .i64 0, .int .i64 0, .int .i64 0] 30)).heap.size := by simp only [World.size_alloc]; omega
          have hxa : v22.heap.size ≠ X := Nat.ne_of_gt hDx.lt
          replace hDx := Dic.alloc (.cells #[.int .i64 0, .int .i64 0, .string ⟨#[]⟩, .slice none 0 0, .int .i64 0, .int .i64 0, .int .i64 0] 30) hDx
          generalize (v22.alloc (.cells #[.int .i64 0, .int .i64 0, .string ⟨#[]⟩, .slice none 0 0, .int .i64 0, .int .i64 0, .int .i64 0] 30)) = w110 at hHeld hbx hsz HN hlo hDx ⊢
          generalize v22.heap.size = a at HN hlo hxa ⊢
          refine wpAnyH_ready (rs := [5]) (by kernel_rfl) (by simp) ?_
          refine AllReadyH.cons rfl (fun K hK => ?_) (AllReadyH.nil)
          · skip
            go_simp
            go_at_call 41; refine (below_c X A zs ms.length (by omega) (by omega) _ hDx).mono ?_; rintro e w111 ⟨d1, rfl, hd0, hd1, hD2, hk2⟩
            replace HN := Blk.kp hk2 hxa HN
            replace hbx := Kp.bel hk2 hX hsz hbx
            replace hsz := Nat.le_trans hsz hk2.size_
            clear hDx hk2
            have hDx := hD2
            clear hD2
            obtain ⟨ia, rfl⟩ : ∃ k : Nat, d1 = k := ⟨d1.toNat, by omega⟩
            have hia : ia < ms.length := by omega
            have hiai : (ia : Int) < ms.length := by omega
            obtain ⟨ma, hma⟩ : ∃ k, k = ms.getD ia 0 := ⟨_, rfl⟩
            have HMa := Lib.hid hma
            have hina : ma ∈ ms := by rw [hma, List.getD_eq_getElem?_getD, List.getElem?_eq_getElem hia]; exact List.getElem_mem _
            clear hma hd0 hd1
            refine hK.out _ _ (⟨Blk.step hbx HR.out, Ints.step hbx HM.out⟩) (fun hHeld => ?_)
            clear hK K
            try simp only [Act.put, List.setIfInBounds_toArray, List.set_cons_zero, List.set_cons_succ]
            refine wpAnyH_take (i := 6) (v := (.pointer (some ⟨gm, ia, none⟩))) rfl (by kernel_rfl) (by kernel_rfl) (by kernel_rfl) (fun _ _ _ h => h) (Or.inl ⟨by rfl, fun w' h => by simp [go_sem, execOp, hiai, hia]⟩) hHeld ?_
            simp only [Act.put, List.getElem_toArray, List.getElem_cons_succ, List.getElem_cons_zero, List.setIfInBounds_toArray, List.set_cons_zero, List.set_cons_succ]
            refine wpAnyH_take (i := 7) (v := (.int .i64 ma)) rfl (by kernel_rfl) (by kernel_rfl) (by kernel_rfl) (fun _ _ _ h => h) (Or.inl ⟨by rfl, fun w' h => by have q := h.2.cell ia hia; rw [← HMa.out] at q; simp [go_sem, execOp, q]⟩) hHeld ?_
            simp only [Act.put, List.getElem_toArray, List.getElem_cons_succ, List.getElem_cons_zero, List.setIfInBounds_toArray, List.set_cons_zero, List.set_cons_succ]
            refine wpAnyH_ready (rs := [12]) (by kernel_rfl) (by simp) ?_
            refine AllReadyH.cons rfl (fun K hK => ?_) (AllReadyH.nil)
            · skip
              go_simp
              go_at_call 41; refine (below_c X A zs ms.length (by omega) (by omega) _ hDx).mono ?_; rintro e w112 ⟨d1, rfl, hd0, hd1, hD2, hk2⟩
              replace HN := Blk.kp hk2 hxa HN
              replace hbx := Kp.bel hk2 hX hsz hbx
              replace hsz := Nat.le_trans hsz hk2.size_
              clear hDx hk2
              clear hxa
              clear hD2
              obtain ⟨ib, rfl⟩ : ∃ k : Nat, d1 = k := ⟨d1.toNat, by omega⟩
              have hib : ib < ms.length := by omega
              have hibi : (ib : Int) < ms.length := by omega
              obtain ⟨mb, hmb⟩ : ∃ k, k = ms.getD ib 0 := ⟨_, rfl⟩
              have HMb := Lib.hid hmb
              have hinb : mb ∈ ms := by rw [hmb, List.getD_eq_getElem?_getD, List.getElem?_eq_getElem hib]; exact List.getElem_mem _
              clear hmb hd0 hd1
              refine hK.out _ _ (⟨Blk.step hbx HR.out, Ints.step hbx HM.out⟩) (fun hHeld => ?_)
              clear hK K
              try simp only [Act.put, List.setIfInBounds_toArray, List.set_cons_zero, List.set_cons_succ]
              refine wpAnyH_take (i := 13) (v := (.pointer (some ⟨gm, ib, none⟩))) rfl (by kernel_rfl) (by kernel_rfl) (by kernel_rfl) (fun _ _ _ h => h) (Or.inl ⟨by rfl, fun w' h => by simp [go_sem, execOp, hibi, hib]⟩) hHeld ?_
              simp only [Act.put, List.getElem_toArray, List.getElem_cons_succ, List.getElem_cons_zero, List.setIfInBounds_toArray, List.set_cons_zero, List.set_cons_succ]
              refine wpAnyH_take (i := 14) (v := (.int .i64 mb)) rfl (by kernel_rfl) (by kernel_rfl) (by kernel_rfl) (fun _ _ _ h => h) (Or.inl ⟨by rfl, fun w' h => by have q := h.2.cell ib hib; rw [← HMb.out] at q; simp [go_sem, execOp, q]⟩) hHeld ?_
              simp only [Act.put, List.getElem_toArray, List.getElem_cons_succ, List.getElem_cons_zero, List.setIfInBounds_toArray, List.set_cons_zero, List.set_cons_succ]
              refine wpAnyH_ready (rs := [15]) (by kernel_rfl) (by simp) ?_
              refine AllReadyH.cons rfl (fun K hK => ?_) (AllReadyH.nil)
              · skip
                go_simp
                obtain ⟨r1, r2, r3⟩ := HALL.out ma mb hina hinb
                go_at_call 30; refine (WithModuli_I C (some ⟨g, 0, none⟩) q ma mb hn hm _ (Ints.step hbx HI.out)).mono ?_; rintro e w113 ⟨A25, c25, rfl, hO, hb2⟩
                rw [r2] at hO
                rw [r1, r2]
                clear r1 r2 r3
                have hox : (Value.slice A25 (mC C ma mb).zs.length c25).ownBlock ≠ some a := own_btwM hO (Or.inl HN.lt)
                replace HN := Blk.step hb2 HN
                have HO := Own.ge_mono hO hsz
                replace hbx := Bel.step hb2 hbx
                replace hsz := Nat.le_trans hsz hb2.size
                clear hO hb2
                refine hK.out _ _ (⟨Blk.step hbx HR.out, Ints.step hbx HM.out⟩) (fun hHeld => ?_)
                clear hK K
                try simp only [Act.put, List.setIfInBounds_toArray, List.set_cons_zero, List.set_cons_succ]
                refine wpAnyH_take (i := 16) (v := (.tuple #[.agg #[.int .i64 (mC C ma mb).dg, .int .i64 (mC C ma mb).tn, .string (mC C ma mb).nm, .slice A25 (mC C ma mb).zs.length c25, .int .i64 (mC C ma mb).wd, .int .i64 (mC C ma mb).lf, .int .i64 (mC C ma mb).rt], .int .i64 0])) rfl (by kernel_rfl) (by kernel_rfl) (by kernel_rfl) (fun _ _ _ h => h) (Or.inl ⟨by rfl, fun w _ => by simp [go_sem, execOp]⟩) hHeld ?_
                simp only [Act.put, List.getElem_toArray, List.getElem_cons_succ, List.getElem_cons_zero, List.setIfInBounds_toArray, List.set_cons_zero, List.set_cons_succ]
                refine wpAnyH_take (i := 17) (v := (.agg #[.int .i64 (mC C ma mb).dg, .int .i64 (mC C ma mb).tn, .string (mC C ma mb).nm, .slice A25 (mC C ma mb).zs.length c25, .int .i64 (mC C ma mb).wd, .int .i64 (mC C ma mb).lf, .int .i64 (mC C ma mb).rt])) rfl (by kernel_rfl) (by kernel_rfl) (by kernel_rfl) (fun _ _ _ h => h) (Or.inl ⟨by rfl, fun w _ => by simp [go_sem, execOp]⟩) hHeld ?_
                simp only [Act.put, List.getElem_toArray, List.getElem_cons_succ, List.getElem_cons_zero, List.setIfInBounds_toArray, List.set_cons_zero, List.set_cons_succ]
                refine wpAnyH_take (i := 18) (v := (.int .i64 0)) rfl (by kernel_rfl) (by kernel_rfl) (by kernel_rfl) (fun _ _ _ h => h) (Or.inl ⟨by rfl, fun w _ => by simp [go_sem, execOp]⟩) hHeld ?_
                simp only [Act.put, List.getElem_toArray, List.getElem_cons_succ, List.getElem_cons_zero, List.setIfInBounds_toArray, List.set_cons_zero, List.set_cons_succ]
                exact key.out _ _ _ _ _ _ _ _ (And.intro hHeld (And.intro hbx (And.intro HN (And.intro hlo (And.intro HO (And.intro hox (And.intro hina hinb)))))))
      intro ia ma ib mb A25 c25 W a ⟨hHeld, hbx, HN, hlo, HO, hox, hina, hinb⟩
      refine wpAnyH_ready (rs := [20]) (by kernel_rfl) (by simp) ?_
      refine AllReadyH.cons rfl (fun K hK => ?_) (AllReadyH.nil)
      refine step_store_blkM (cs := #[.int .i64 (mC C ma mb).dg, .int .i64 (mC C ma mb).tn, .string (mC C ma mb).nm, .slice A25 (mC C ma mb).zs.length c25, .int .i64 (mC C ma mb).wd, .int .i64 (mC C ma mb).lf, .int .i64 (mC C ma mb).rt]) 30 _ _ a HN (by kernel_rfl) rfl (by simp [Value.oneCell']) rfl rfl rfl rfl rfl ?_
      refine hK.out _ _ ⟨Blk.step (Bel.setRow hbx hlo #[.int .i64 (mC C ma mb).dg, .int .i64 (mC C ma mb).tn, .string (mC C ma mb).nm, .slice A25 (mC C ma mb).zs.length c25, .int .i64 (mC C ma mb).wd, .int .i64 (mC C ma mb).lf, .int .i64 (mC C ma mb).rt]) HR.out, Ints.step (Bel.setRow hbx hlo #[.int .i64 (mC C ma mb).dg, .int .i64 (mC C ma mb).tn, .string (mC C ma mb).nm, .slice A25 (mC C ma mb).zs.length c25, .int .i64 (mC C ma mb).wd, .int .i64 (mC C ma mb).lf, .int .i64 (mC C ma mb).rt]) HM.out⟩ (fun hHeld => ?_)
      clear hK K
      try simp only [Act.put, List.setIfInBounds_toArray, List.set_cons_zero, List.set_cons_succ]
      replace HN := Blk.setRow #[.int .i64 (mC C ma mb).dg, .int .i64 (mC C ma mb).tn, .string (mC C ma mb).nm, .slice A25 (mC C ma mb).zs.length c25, .int .i64 (mC C ma mb).wd, .int .i64 (mC C ma mb).lf, .int .i64 (mC C ma mb).rt] HN
      replace HO := Own.kept HO (grown_setRowM W a #[.int .i64 (mC C ma mb).dg, .int .i64 (mC C ma mb).tn, .string (mC C ma mb).nm, .slice A25 (mC C ma mb).zs.length c25, .int .i64 (mC C ma mb).wd, .int .i64 (mC C ma mb).lf, .int .i64 (mC C ma mb).rt]) (.inr hox)
      replace hbx := Bel.setRow hbx hlo #[.int .i64 (mC C ma mb).dg, .int .i64 (mC C ma mb).tn, .string (mC C ma mb).nm, .slice A25 (mC C ma mb).zs.length c25, .int .i64 (mC C ma mb).wd, .int .i64 (mC C ma mb).lf, .int .i64 (mC C ma mb).rt]
      generalize W.setRow a #[.int .i64 (mC C ma mb).dg, .int .i64 (mC C ma mb).tn, .string (mC C ma mb).nm, .slice A25 (mC C ma mb).zs.length c25, .int .i64 (mC C ma mb).wd, .int .i64 (mC C ma mb).lf, .int .i64 (mC C ma mb).rt] = W2 at hHeld hbx HN HO ⊢
      refine wpAnyH_take (i := 21) (v := (.int .i64 0)) rfl (by kernel_rfl) (by kernel_rfl) (by kernel_rfl) (fun _ _ _ h => h) (Or.inl ⟨by rfl, fun w _ => by simp [go_sem, execOp]⟩) hHeld ?_
      simp only [Act.put, List.getElem_toArray, List.getElem_cons_succ, List.getElem_cons_zero, List.setIfInBounds_toArray, List.set_cons_zero, List.set_cons_succ]
      refine wpAnyH_done (by kernel_rfl) ?_ _
      obtain ⟨_, _, r3⟩ := HALL.out ma mb hina hinb
      have hSn : (mC C ma mb).zs.length ≤ 1048576 := hn
      have hSm : (mC C ma mb).nm.size ≤ 1048576 := hm
      obtain ⟨S, hS⟩ : ∃ Z, Z = mC C ma mb := ⟨_, rfl⟩
      rw [← hS] at hSn hSm r3 HN HO ⊢
      have HR3 := Lib.hid r3
      have HK := Lib.hid HN
      have HIK := Lib.hid HO.ints
      replace HT := Lib.hid (Blk.step hbx HT.out)
      replace HI20 := Lib.hid (Ints.step hbx HI20.out)
      replace HU := Lib.hid (Prs.step hbx HU.out)
      replace HV := Lib.hid (Prs.step hbx HV.out)
      replace HB := Lib.hid (Bel.step hbx HB.out)
      clear hHeld hbx HN HO hox hlo hina hinb hS r3 HALL HR HI HM hX hb21 hD
      go_wp2_with (first | (refine wpList_load_blkG 30 _ _ (Blk.step (zb0 HB) HT.out) Tryz.underlying30 (by kernel_rfl) rfl rfl (by rfl) ?_))
      go_at_call 42; refine (LayoutError_I T A20 c20 G cu us H cv vs ey hTn hTm hu hv _ (by repeat (with_reducible first | exact HI20.out | assumption | refine Ints.drew ?_ | refine Ints.drewN _ ?_ | refine Ints.alloc _ ?_ | refine Ints.step (by assumption) ?_)) (by repeat (with_reducible first | exact HU.out | assumption | refine Prs.drew ?_ | refine Prs.drewN _ ?_ | refine Prs.alloc _ ?_ | refine Prs.step (by assumption) ?_)) (by repeat (with_reducible first | exact HV.out | assumption | refine Prs.drew ?_ | refine Prs.drewN _ ?_ | refine Prs.alloc _ ?_ | refine Prs.step (by assumption) ?_))).mono ?_; rintro e w31 ⟨rfl, hb31⟩; have hka := zba HB hb31; (try replace HI20 := yI hb31 hka HI20); (try replace HU := yR hb31 hka HU); (try replace HV := yR hb31 hka HV); (try replace HT := yB hb31 hka HT); (try replace HIK := yI hb31 hka HIK); (try replace HK := yB hb31 hka HK); replace HB := Lib.hid (Bel.step hb31 (Bel.step hka HB.out)); have hsz31 := hb31.size; have hsy31 := hka.size; (try simp only [World.size_alloc, World.size_drew, World.heap_drewN, World.size_setCell] at hsz31 hsy31); clear hka hb31
      clear hsz31 hsy31
      try generalize Value.agg #[.int .i64 T.dg, .int .i64 T.tn, .string T.nm, .slice A20 T.zs.length c20, .int .i64 T.wd, .int .i64 T.lf, .int .i64 T.rt] = vv14
      rw [s3]
      obtain ⟨e1, he1⟩ : ∃ k, k = (leV T us vs ey).1 := ⟨_, rfl⟩
      have h3 := HR3.out
      clear HR3
      rw [← he1] at h3 ⊢
      have HR3 := Lib.hid h3
      clear h3 he1 s3
      go_wp2_with (first | (refine wpList_load_blkG 30 _ _ (Blk.step (zb0 HB) HT.out) Tryz.underlying30 (by kernel_rfl) rfl rfl (by rfl) ?_))
      go_at_call 43; refine (HeightOf_I T A20 c20 G cu us H cv vs hTn hTm hu hv _ (by repeat (with_reducible first | exact HI20.out | assumption | refine Ints.drew ?_ | refine Ints.drewN _ ?_ | refine Ints.alloc _ ?_ | refine Ints.step (by assumption) ?_)) (by repeat (with_reducible first | exact HU.out | assumption | refine Prs.drew ?_ | refine Prs.drewN _ ?_ | refine Prs.alloc _ ?_ | refine Prs.step (by assumption) ?_)) (by repeat (with_reducible first | exact HV.out | assumption | refine Prs.drew ?_ | refine Prs.drewN _ ?_ | refine Prs.alloc _ ?_ | refine Prs.step (by assumption) ?_))).mono ?_; rintro e w32 ⟨rfl, hb32⟩; have hka := zba HB hb32; (try replace HI20 := yI hb32 hka HI20); (try replace HU := yR hb32 hka HU); (try replace HV := yR hb32 hka HV); (try replace HT := yB hb32 hka HT); (try replace HIK := yI hb32 hka HIK); (try replace HK := yB hb32 hka HK); replace HB := Lib.hid (Bel.step hb32 (Bel.step hka HB.out)); have hsz32 := hb32.size; have hsy32 := hka.size; (try simp only [World.size_alloc, World.size_drew, World.heap_drewN, World.size_setCell] at hsz32 hsy32); clear hka hb32
      clear hsz32 hsy32
      try generalize Value.agg #[.int .i64 T.dg, .int .i64 T.tn, .string T.nm, .slice A20 T.zs.length c20, .int .i64 T.wd, .int .i64 T.lf, .int .i64 T.rt] = vv15
      rw [s4]
      obtain ⟨h1, hh1⟩ : ∃ k, k = heV T us vs := ⟨_, rfl⟩
      rw [← hh1] at s5 ⊢
      clear hh1 s4
      clear HT HI20
      go_wp2_with (first | (refine wpList_load_blkG 30 _ _ (Blk.step (zb0 HB) HK.out) Tryz.underlying30 (by kernel_rfl) rfl rfl (by rfl) ?_))
      go_at_call 42; refine (LayoutError_I S A25 c25 G cu us H cv vs ey hSn hSm hu hv _ (by repeat (with_reducible first | exact HIK.out | assumption | refine Ints.drew ?_ | refine Ints.drewN _ ?_ | refine Ints.alloc _ ?_ | refine Ints.step (by assumption) ?_)) (by repeat (with_reducible first | exact HU.out | assumption | refine Prs.drew ?_ | refine Prs.drewN _ ?_ | refine Prs.alloc _ ?_ | refine Prs.step (by assumption) ?_)) (by repeat (with_reducible first | exact HV.out | assumption | refine Prs.drew ?_ | refine Prs.drewN _ ?_ | refine Prs.alloc _ ?_ | refine Prs.step (by assumption) ?_))).mono ?_; rintro e w35 ⟨rfl, hb35⟩; have hka := zba HB hb35; (try replace HU := yR hb35 hka HU); (try replace HV := yR hb35 hka HV); (try replace HIK := yI hb35 hka HIK); (try replace HK := yB hb35 hka HK); replace HB := Lib.hid (Bel.step hb35 (Bel.step hka HB.out)); have hsz35 := hb35.size; have hsy35 := hka.size; (try simp only [World.size_alloc, World.size_drew, World.heap_drewN, World.size_setCell] at hsz35 hsy35); clear hka hb35
      clear hsz35 hsy35
      try generalize Value.agg #[.int .i64 S.dg, .int .i64 S.tn, .string S.nm, .slice A25 S.zs.length c25, .int .i64 S.wd, .int .i64 S.lf, .int .i64 S.rt] = vv16
      obtain ⟨e2, he2⟩ : ∃ k, k = (leV S us vs ey).1 := ⟨_, rfl⟩
      obtain ⟨kl, hkl⟩ : ∃ k, k = leC S us vs ey := ⟨_, rfl⟩
      have h3 := HR3.out
      clear HR3
      rw [← he2, ← hkl] at h3 ⊢
      have HR3 := Lib.hid h3
      clear h3 he2 hkl
      go_wp2_with (first | (refine wpList_load_blkG 30 _ _ (Blk.step (zb0 HB) HK.out) Tryz.underlying30 (by kernel_rfl) rfl rfl (by rfl) ?_))
      go_at_call 43; refine (HeightOf_I S A25 c25 G cu us H cv vs hSn hSm hu hv _ (by repeat (with_reducible first | exact HIK.out | assumption | refine Ints.drew ?_ | refine Ints.drewN _ ?_ | refine Ints.alloc _ ?_ | refine Ints.step (by assumption) ?_)) (by repeat (with_reducible first | exact HU.out | assumption | refine Prs.drew ?_ | refine Prs.drewN _ ?_ | refine Prs.alloc _ ?_ | refine Prs.step (by assumption) ?_)) (by repeat (with_reducible first | exact HV.out | assumption | refine Prs.drew ?_ | refine Prs.drewN _ ?_ | refine Prs.alloc _ ?_ | refine Prs.step (by assumption) ?_))).mono ?_; rintro e w36 ⟨rfl, hb36⟩; have hka := zba HB hb36; (try replace HU := yR hb36 hka HU); (try replace HV := yR hb36 hka HV); (try replace HIK := yI hb36 hka HIK); (try replace HK := yB hb36 hka HK); replace HB := Lib.hid (Bel.step hb36 (Bel.step hka HB.out)); have hsz36 := hb36.size; have hsy36 := hka.size; (try simp only [World.size_alloc, World.size_drew, World.heap_drewN, World.size_setCell] at hsz36 hsy36); clear hka hb36
      clear hsz36 hsy36
      try generalize Value.agg #[.int .i64 S.dg, .int .i64 S.tn, .string S.nm, .slice A25 S.zs.length c25, .int .i64 S.wd, .int .i64 S.lf, .int .i64 S.rt] = vv17
      obtain ⟨h2, hh2⟩ : ∃ k, k = heV S us vs := ⟨_, rfl⟩
      obtain ⟨kh, hkh⟩ : ∃ k, k = heC S us vs := ⟨_, rfl⟩
      have h3 := HR3.out
      clear HR3
      rw [← hh2, ← hkh] at h3 ⊢
      clear hh2 hkh
      clear HU HV HK HIK
      go_upto_region 37 with (fail)
      by_cases q1 : kl = 0
      rotate_left
      · have q2 : (kl != 0) = true := by simpa using q1
        go_wp2
        go_ret
        exact ⟨rfl, HB.out⟩
      subst q1
      by_cases q3 : kh = 0
      rotate_left
      · have q2 : (kh != 0) = true := by simpa using q3
        go_wp2
        go_ret
        exact ⟨rfl, HB.out⟩
      subst q3
      by_cases q4 : mo < h2
      · go_wp2
        go_ret
        exact ⟨rfl, HB.out⟩
      have q5 := h3 rfl rfl (by omega)
      go_wp2
      go_ret
      exact ⟨rfl, HB.out⟩
end Go.Proofs.YtpmcgicopogbhaaGreat
