/- The statement FnReleases, walked. No conditions. -/
import Derived.Test.YtpmcgicopogbhaaGreatProg
import Derived.Test.YtpmcgicopogbhaaGreatBase
import Derived.Test.YtpmcgicopogbhaaGreatZz
import Derived.Test.YtpmcgicopogbhaaGreatRw
import Derived.Test.YtpmcgicopogbhaaGreatRg
import Derived.Test.YtpmcgicopogbhaaGreatL01
import Derived.Test.YtpmcgicopogbhaaGreatCp
import Derived.Test.YtpmcgicopogbhaaGreatCm
import Derived.Test.YtpmcgicopogbhaaGreatL18
import Derived.Test.YtpmcgicopogbhaaGreatL23
import Derived.Test.YtpmcgicopogbhaaGreatL03
import Derived.Test.YtpmcgicopogbhaaGreatL04
import Derived.Test.YtpmcgicopogbhaaGreatL23d
import Derived.Test.YtpmcgicopogbhaaGreatL23e
import Derived.Test.YtpmcgicopogbhaaGreatL24
import Derived.Test.YtpmcgicopogbhaaGreatL24b
import Derived.Test.YtpmcgicopogbhaaGreatL24c
import Derived.Test.YtpmcgicopogbhaaGreatL24f
import Derived.Test.YtpmcgicopogbhaaGreatL24g
import Derived.Test.YtpmcgicopogbhaaGreatL24s
import Derived.Test.YtpmcgicopogbhaaGreatM24
import Derived.Test.YtpmcgicopogbhaaGreatE24
import Derived.Test.YtpmcgicopogbhaaGreatE23
import Derived.Test.YtpmcgicopogbhaaGreatE24b
import Derived.Test.YtpmcgicopogbhaaGreatE27
import Derived.Test.YtpmcgicopogbhaaGreatL27o
import Derived.Test.YtpmcgicopogbhaaGreatL27a
import Derived.Test.YtpmcgicopogbhaaGreatL27b
import Derived.Test.YtpmcgicopogbhaaGreatL27c
import Derived.Test.YtpmcgicopogbhaaGreatL27t
import Derived.Test.YtpmcgicopogbhaaGreatL27u
import Derived.Test.YtpmcgicopogbhaaGreatL27v
import Derived.Test.YtpmcgicopogbhaaGreatL27w
import Derived.Test.YtpmcgicopogbhaaGreatP24w
import Derived.Test.YtpmcgicopogbhaaGreatP27r
import Derived.Test.YtpmcgicopogbhaaGreatD00
import Derived.Test.YtpmcgicopogbhaaGreatD01
import Derived.Test.YtpmcgicopogbhaaGreatD27
import Derived.Test.YtpmcgicopogbhaaGreatD27b
import Derived.Test.YtpmcgicopogbhaaGreatD27c
import Derived.Test.YtpmcgicopogbhaaGreatD27r
import Derived.WalkKit
import Derived.WalkSpells
import Derived.WalkLawsBesides
import Derived.Lib.Hide
import Derived.Deep.QuietTactic
import Derived.BigQuiet
import Derived.Deep.Draws
import Derived.Deep.RegionHeld3
import Derived.Deep.Cut
namespace Go.Proofs.YtpmcgicopogbhaaGreat
open Go.RowKit
set_option linter.unusedVariables false
set_option linter.unusedSimpArgs false
set_option maxRecDepth 50000 in
set_option maxHeartbeats 64000000 in
theorem FnReleases_w (w : World) (A : Option Addr) (c : Nat) (zs : List Int) (hl : zs.length ≤ 9223372036854775807) (hA : Byts w A zs) :
    Calls Tryz.prog 3 #[.slice A zs.length c] w fun e w' => e = .returned (.bool true) ∧ Below w.heap.size w w' := by
  have HB := Lib.hid (Below.refl w.heap.size w)
  by_cases hz : zs.length ≤ 4096
  rotate_left
  · go_enter Tryz.func3, Tryz.ntmps3
    go_wp2_with fail
    go_at_call 5; refine (big_yes A c zs.length (by omega) _).mono ?_; rintro e w' ⟨rfl, rfl⟩
    go_wp2
    go_ret
    exact ⟨rfl, HB.out⟩
  have HA := Lib.hid hA
  clear hA hl
  go_enter Tryz.func3, Tryz.ntmps3
  go_wp2_with fail
  go_at_call 5; refine (big_no A c zs.length hz _).mono ?_; rintro e w' ⟨rfl, rfl⟩
  go_wp2_with fail
  go_at_call 6; refine (DrawTightenBound_c A c zs hz _ HA.out).mono ?_; rintro e w1 ⟨R, g, q, rfl, hn0, hm0, hO, hb1⟩; have hka := zba HB hb1; (try replace HA := yY hb1 hka HA); replace HB := Lib.hid (Bel.step hb1 (Bel.step hka HB.out)); have hsz1 := hb1.size; have hsy1 := hka.size; (try simp only [World.size_alloc, World.size_drew, World.heap_drewN, World.size_setCell] at hsz1 hsy1); clear hka hb1
  clear hsz1 hsy1
  have HI := Lib.hid hO.ints
  clear hO
  have hn : R.ch.zs.length ≤ 1048576 := by omega
  have hm : R.ch.nm.size ≤ 1048576 := by omega
  clear hn0 hm0
  go_upto_region 4 with (refine wpList_store_blk (cs := #[.int .i64 R.ch.dg, .int .i64 R.ch.tn, .string R.ch.nm, .slice (some ⟨g, 0, none⟩) R.ch.zs.length q, .int .i64 R.ch.wd, .int .i64 R.ch.lf, .int .i64 R.ch.rt, .int .i64 R.ad, .int .i64 R.at_, .int .i64 R.bd, .int .i64 R.bt, .int .i64 R.cd, .int .i64 R.ct, .int .i64 R.dd, .int .i64 R.dt, .int .i64 R.ey, .int .i64 R.bo]) 32 _ _ _ (Blk.new _ _ _) (by kernel_rfl) rfl (by simp [Value.oneCell']) rfl rfl rfl rfl ?_)
  rw [World.setRow_alloc_new]
  have HR := Lib.hid (by have h := Blk.new w1 32 #[.int .i64 R.ch.dg, .int .i64 R.ch.tn, .string R.ch.nm, .slice (some ⟨g, 0, none⟩) R.ch.zs.length q, .int .i64 R.ch.wd, .int .i64 R.ch.lf, .int .i64 R.ch.rt, .int .i64 R.ad, .int .i64 R.at_, .int .i64 R.bd, .int .i64 R.bt, .int .i64 R.cd, .int .i64 R.ct, .int .i64 R.dd, .int .i64 R.dt, .int .i64 R.ey, .int .i64 R.bo]; (try simp only [World.size_alloc] at h); exact h)
  replace HA := Lib.hid (Byts.alloc (.cells #[.int .i64 R.ch.dg, .int .i64 R.ch.tn, .string R.ch.nm, .slice (some ⟨g, 0, none⟩) R.ch.zs.length q, .int .i64 R.ch.wd, .int .i64 R.ch.lf, .int .i64 R.ch.rt, .int .i64 R.ad, .int .i64 R.at_, .int .i64 R.bd, .int .i64 R.bt, .int .i64 R.cd, .int .i64 R.ct, .int .i64 R.dd, .int .i64 R.dt, .int .i64 R.ey, .int .i64 R.bo] 32) HA.out)
  replace HI := Lib.hid (Ints.alloc (.cells #[.int .i64 R.ch.dg, .int .i64 R.ch.tn, .string R.ch.nm, .slice (some ⟨g, 0, none⟩) R.ch.zs.length q, .int .i64 R.ch.wd, .int .i64 R.ch.lf, .int .i64 R.ch.rt, .int .i64 R.ad, .int .i64 R.at_, .int .i64 R.bd, .int .i64 R.bt, .int .i64 R.cd, .int .i64 R.ct, .int .i64 R.dd, .int .i64 R.dt, .int .i64 R.ey, .int .i64 R.bo] 32) HI.out)
  replace HB := Lib.hid (Bel.alloc HB.out (.cells #[.int .i64 R.ch.dg, .int .i64 R.ch.tn, .string R.ch.nm, .slice (some ⟨g, 0, none⟩) R.ch.zs.length q, .int .i64 R.ch.wd, .int .i64 R.ch.lf, .int .i64 R.ch.rt, .int .i64 R.ad, .int .i64 R.at_, .int .i64 R.bd, .int .i64 R.bt, .int .i64 R.cd, .int .i64 R.ct, .int .i64 R.dd, .int .i64 R.dt, .int .i64 R.ey, .int .i64 R.bo] 32))
  go_wp2_with (first | (refine wpList_load_blkG 32 _ _ (Blk.step (zb0 HB) HR.out) Tryz.underlying32 (by kernel_rfl) rfl rfl (by rfl) ?_))
  go_at_call 7; refine (TightenBound_I R (some ⟨g, 0, none⟩) q hn hm _ (by repeat (with_reducible first | exact HI.out | assumption | refine Ints.drew ?_ | refine Ints.drewN _ ?_ | refine Ints.alloc _ ?_ | refine Ints.step (by assumption) ?_))).mono ?_; rintro e w2 ⟨A2, c2, rfl, hO2, hb2⟩; have hka := zba HB hb2; (try replace HA := yY hb2 hka HA); (try replace HI := yI hb2 hka HI); (try replace HR := yB hb2 hka HR); replace HB := Lib.hid (Bel.step hb2 (Bel.step hka HB.out)); have hsz2 := hb2.size; have hsy2 := hka.size; (try simp only [World.size_alloc, World.size_drew, World.heap_drewN, World.size_setCell] at hsz2 hsy2); clear hka hb2
  clear hsz2 hsy2
  try generalize Value.agg #[.int .i64 R.ch.dg, .int .i64 R.ch.tn, .string R.ch.nm, .slice (some ⟨g, 0, none⟩) R.ch.zs.length q, .int .i64 R.ch.wd, .int .i64 R.ch.lf, .int .i64 R.ch.rt, .int .i64 R.ad, .int .i64 R.at_, .int .i64 R.bd, .int .i64 R.bt, .int .i64 R.cd, .int .i64 R.ct, .int .i64 R.dd, .int .i64 R.dt, .int .i64 R.ey, .int .i64 R.bo] = vv1
  have hrel := fun h => tb_rel (R := R) h
  have hlen : (tbV R).ch.zs.length ≤ 1048576 ∧ (tbV R).ch.nm.size ≤ 1048576 := by
    unfold tbV
    split
    · exact ⟨hn, hm⟩
    · exact ⟨Nat.zero_le _, Nat.zero_le _⟩
  obtain ⟨T, hT⟩ : ∃ T, T = tbV R := ⟨_, rfl⟩
  obtain ⟨kb, hkb⟩ : ∃ k, k = tbC R := ⟨_, rfl⟩
  rw [← hT, ← hkb] at hrel
  rw [← hT] at hlen hO2
  rw [← hT, ← hkb]
  have HTE := Lib.hid (And.intro hT hkb)
  have HREL := Lib.hid hrel
  clear hT hkb hrel
  obtain ⟨hTn, hTm⟩ := hlen
  have HI2 := Lib.hid hO2.ints
  clear hO2
  go_upto_region 5 with (refine wpList_store_blk (cs := #[.int .i64 T.ch.dg, .int .i64 T.ch.tn, .string T.ch.nm, .slice A2 T.ch.zs.length c2, .int .i64 T.ch.wd, .int .i64 T.ch.lf, .int .i64 T.ch.rt, .int .i64 T.ad, .int .i64 T.at_, .int .i64 T.bd, .int .i64 T.bt, .int .i64 T.cd, .int .i64 T.ct, .int .i64 T.dd, .int .i64 T.dt, .int .i64 T.ey, .int .i64 T.bo]) 32 _ _ _ (Blk.new _ _ _) (by kernel_rfl) rfl (by simp [Value.oneCell']) rfl rfl rfl rfl ?_)
  rw [World.setRow_alloc_new]
  have HT := Lib.hid (by have h := Blk.new w2 32 #[.int .i64 T.ch.dg, .int .i64 T.ch.tn, .string T.ch.nm, .slice A2 T.ch.zs.length c2, .int .i64 T.ch.wd, .int .i64 T.ch.lf, .int .i64 T.ch.rt, .int .i64 T.ad, .int .i64 T.at_, .int .i64 T.bd, .int .i64 T.bt, .int .i64 T.cd, .int .i64 T.ct, .int .i64 T.dd, .int .i64 T.dt, .int .i64 T.ey, .int .i64 T.bo]; (try simp only [World.size_alloc] at h); exact h)
  replace HA := Lib.hid (Byts.alloc (.cells #[.int .i64 T.ch.dg, .int .i64 T.ch.tn, .string T.ch.nm, .slice A2 T.ch.zs.length c2, .int .i64 T.ch.wd, .int .i64 T.ch.lf, .int .i64 T.ch.rt, .int .i64 T.ad, .int .i64 T.at_, .int .i64 T.bd, .int .i64 T.bt, .int .i64 T.cd, .int .i64 T.ct, .int .i64 T.dd, .int .i64 T.dt, .int .i64 T.ey, .int .i64 T.bo] 32) HA.out)
  replace HI := Lib.hid (Ints.alloc (.cells #[.int .i64 T.ch.dg, .int .i64 T.ch.tn, .string T.ch.nm, .slice A2 T.ch.zs.length c2, .int .i64 T.ch.wd, .int .i64 T.ch.lf, .int .i64 T.ch.rt, .int .i64 T.ad, .int .i64 T.at_, .int .i64 T.bd, .int .i64 T.bt, .int .i64 T.cd, .int .i64 T.ct, .int .i64 T.dd, .int .i64 T.dt, .int .i64 T.ey, .int .i64 T.bo] 32) HI.out)
  replace HR := Lib.hid (Blk.alloc (.cells #[.int .i64 T.ch.dg, .int .i64 T.ch.tn, .string T.ch.nm, .slice A2 T.ch.zs.length c2, .int .i64 T.ch.wd, .int .i64 T.ch.lf, .int .i64 T.ch.rt, .int .i64 T.ad, .int .i64 T.at_, .int .i64 T.bd, .int .i64 T.bt, .int .i64 T.cd, .int .i64 T.ct, .int .i64 T.dd, .int .i64 T.dt, .int .i64 T.ey, .int .i64 T.bo] 32) HR.out)
  replace HI2 := Lib.hid (Ints.alloc (.cells #[.int .i64 T.ch.dg, .int .i64 T.ch.tn, .string T.ch.nm, .slice A2 T.ch.zs.length c2, .int .i64 T.ch.wd, .int .i64 T.ch.lf, .int .i64 T.ch.rt, .int .i64 T.ad, .int .i64 T.at_, .int .i64 T.bd, .int .i64 T.bt, .int .i64 T.cd, .int .i64 T.ct, .int .i64 T.dd, .int .i64 T.dt, .int .i64 T.ey, .int .i64 T.bo] 32) HI2.out)
  replace HB := Lib.hid (Bel.alloc HB.out (.cells #[.int .i64 T.ch.dg, .int .i64 T.ch.tn, .string T.ch.nm, .slice A2 T.ch.zs.length c2, .int .i64 T.ch.wd, .int .i64 T.ch.lf, .int .i64 T.ch.rt, .int .i64 T.ad, .int .i64 T.at_, .int .i64 T.bd, .int .i64 T.bt, .int .i64 T.cd, .int .i64 T.ct, .int .i64 T.dd, .int .i64 T.dt, .int .i64 T.ey, .int .i64 T.bo] 32))
  go_wp2_with (first | (refine wpList_load_blkG 32 _ _ (Blk.step (zb0 HB) HR.out) Tryz.underlying32 (by kernel_rfl) rfl rfl (by rfl) ?_))
  go_at_call 8; refine (TightenBound_S R (some ⟨g, 0, none⟩) q hn hm _ (by repeat (with_reducible first | exact HI.out | assumption | refine Ints.drew ?_ | refine Ints.drewN _ ?_ | refine Ints.alloc _ ?_ | refine Ints.step (by assumption) ?_))).mono ?_; rintro e w3 ⟨A3, c3, rfl, hO3, hb3⟩; have hka := zba HB hb3; (try replace HA := yY hb3 hka HA); (try replace HI := yI hb3 hka HI); (try replace HR := yB hb3 hka HR); (try replace HI2 := yI hb3 hka HI2); (try replace HT := yB hb3 hka HT); replace HB := Lib.hid (Bel.step hb3 (Bel.step hka HB.out)); have hsz3 := hb3.size; have hsy3 := hka.size; (try simp only [World.size_alloc, World.size_drew, World.heap_drewN, World.size_setCell] at hsz3 hsy3); clear hka hb3
  clear hsz3 hsy3
  try generalize Value.agg #[.int .i64 R.ch.dg, .int .i64 R.ch.tn, .string R.ch.nm, .slice (some ⟨g, 0, none⟩) R.ch.zs.length q, .int .i64 R.ch.wd, .int .i64 R.ch.lf, .int .i64 R.ch.rt, .int .i64 R.ad, .int .i64 R.at_, .int .i64 R.bd, .int .i64 R.bt, .int .i64 R.cd, .int .i64 R.ct, .int .i64 R.dd, .int .i64 R.dt, .int .i64 R.ey, .int .i64 R.bo] = vv2
  try generalize Value.agg #[.int .i64 T.ch.dg, .int .i64 T.ch.tn, .string T.ch.nm, .slice A2 T.ch.zs.length c2, .int .i64 T.ch.wd, .int .i64 T.ch.lf, .int .i64 T.ch.rt, .int .i64 T.ad, .int .i64 T.at_, .int .i64 T.bd, .int .i64 T.bt, .int .i64 T.cd, .int .i64 T.ct, .int .i64 T.dd, .int .i64 T.dt, .int .i64 T.ey, .int .i64 T.bo] = vv3
  rw [← HTE.out.1] at hO3
  rw [← HTE.out.1, ← HTE.out.2]
  clear HTE
  have HI3 := Lib.hid hO3.ints
  clear hO3
  go_upto_region 6 with (refine wpList_store_blk (cs := #[.int .i64 T.ch.dg, .int .i64 T.ch.tn, .string T.ch.nm, .slice A3 T.ch.zs.length c3, .int .i64 T.ch.wd, .int .i64 T.ch.lf, .int .i64 T.ch.rt, .int .i64 T.ad, .int .i64 T.at_, .int .i64 T.bd, .int .i64 T.bt, .int .i64 T.cd, .int .i64 T.ct, .int .i64 T.dd, .int .i64 T.dt, .int .i64 T.ey, .int .i64 T.bo]) 32 _ _ _ (Blk.new _ _ _) (by kernel_rfl) rfl (by simp [Value.oneCell']) rfl rfl rfl rfl ?_)
  rw [World.setRow_alloc_new]
  have HT2 := Lib.hid (by have h := Blk.new w3 32 #[.int .i64 T.ch.dg, .int .i64 T.ch.tn, .string T.ch.nm, .slice A3 T.ch.zs.length c3, .int .i64 T.ch.wd, .int .i64 T.ch.lf, .int .i64 T.ch.rt, .int .i64 T.ad, .int .i64 T.at_, .int .i64 T.bd, .int .i64 T.bt, .int .i64 T.cd, .int .i64 T.ct, .int .i64 T.dd, .int .i64 T.dt, .int .i64 T.ey, .int .i64 T.bo]; (try simp only [World.size_alloc] at h); exact h)
  replace HA := Lib.hid (Byts.alloc (.cells #[.int .i64 T.ch.dg, .int .i64 T.ch.tn, .string T.ch.nm, .slice A3 T.ch.zs.length c3, .int .i64 T.ch.wd, .int .i64 T.ch.lf, .int .i64 T.ch.rt, .int .i64 T.ad, .int .i64 T.at_, .int .i64 T.bd, .int .i64 T.bt, .int .i64 T.cd, .int .i64 T.ct, .int .i64 T.dd, .int .i64 T.dt, .int .i64 T.ey, .int .i64 T.bo] 32) HA.out)
  replace HI := Lib.hid (Ints.alloc (.cells #[.int .i64 T.ch.dg, .int .i64 T.ch.tn, .string T.ch.nm, .slice A3 T.ch.zs.length c3, .int .i64 T.ch.wd, .int .i64 T.ch.lf, .int .i64 T.ch.rt, .int .i64 T.ad, .int .i64 T.at_, .int .i64 T.bd, .int .i64 T.bt, .int .i64 T.cd, .int .i64 T.ct, .int .i64 T.dd, .int .i64 T.dt, .int .i64 T.ey, .int .i64 T.bo] 32) HI.out)
  replace HR := Lib.hid (Blk.alloc (.cells #[.int .i64 T.ch.dg, .int .i64 T.ch.tn, .string T.ch.nm, .slice A3 T.ch.zs.length c3, .int .i64 T.ch.wd, .int .i64 T.ch.lf, .int .i64 T.ch.rt, .int .i64 T.ad, .int .i64 T.at_, .int .i64 T.bd, .int .i64 T.bt, .int .i64 T.cd, .int .i64 T.ct, .int .i64 T.dd, .int .i64 T.dt, .int .i64 T.ey, .int .i64 T.bo] 32) HR.out)
  replace HI2 := Lib.hid (Ints.alloc (.cells #[.int .i64 T.ch.dg, .int .i64 T.ch.tn, .string T.ch.nm, .slice A3 T.ch.zs.length c3, .int .i64 T.ch.wd, .int .i64 T.ch.lf, .int .i64 T.ch.rt, .int .i64 T.ad, .int .i64 T.at_, .int .i64 T.bd, .int .i64 T.bt, .int .i64 T.cd, .int .i64 T.ct, .int .i64 T.dd, .int .i64 T.dt, .int .i64 T.ey, .int .i64 T.bo] 32) HI2.out)
  replace HT := Lib.hid (Blk.alloc (.cells #[.int .i64 T.ch.dg, .int .i64 T.ch.tn, .string T.ch.nm, .slice A3 T.ch.zs.length c3, .int .i64 T.ch.wd, .int .i64 T.ch.lf, .int .i64 T.ch.rt, .int .i64 T.ad, .int .i64 T.at_, .int .i64 T.bd, .int .i64 T.bt, .int .i64 T.cd, .int .i64 T.ct, .int .i64 T.dd, .int .i64 T.dt, .int .i64 T.ey, .int .i64 T.bo] 32) HT.out)
  replace HI3 := Lib.hid (Ints.alloc (.cells #[.int .i64 T.ch.dg, .int .i64 T.ch.tn, .string T.ch.nm, .slice A3 T.ch.zs.length c3, .int .i64 T.ch.wd, .int .i64 T.ch.lf, .int .i64 T.ch.rt, .int .i64 T.ad, .int .i64 T.at_, .int .i64 T.bd, .int .i64 T.bt, .int .i64 T.cd, .int .i64 T.ct, .int .i64 T.dd, .int .i64 T.dt, .int .i64 T.ey, .int .i64 T.bo] 32) HI3.out)
  replace HB := Lib.hid (Bel.alloc HB.out (.cells #[.int .i64 T.ch.dg, .int .i64 T.ch.tn, .string T.ch.nm, .slice A3 T.ch.zs.length c3, .int .i64 T.ch.wd, .int .i64 T.ch.lf, .int .i64 T.ch.rt, .int .i64 T.ad, .int .i64 T.at_, .int .i64 T.bd, .int .i64 T.bt, .int .i64 T.cd, .int .i64 T.ct, .int .i64 T.dd, .int .i64 T.dt, .int .i64 T.ey, .int .i64 T.bo] 32))
  go_wp2_with fail
  go_at_call 9; refine (DrawSafeBound_c A c zs hz _ (Byts.step (by repeat (with_reducible first | exact Below.refl _ _ | refine Bel.alloc ?_ _)) HA.out)).mono ?_; rintro e w4 ⟨D, gd, qd, x, rfl, hn0, hm0, hO4, hb4⟩; have hka := zba HB hb4; (try replace HA := yY hb4 hka HA); (try replace HI := yI hb4 hka HI); (try replace HR := yB hb4 hka HR); (try replace HI2 := yI hb4 hka HI2); (try replace HT := yB hb4 hka HT); (try replace HI3 := yI hb4 hka HI3); (try replace HT2 := yB hb4 hka HT2); replace HB := Lib.hid (Bel.step hb4 (Bel.step hka HB.out)); have hsz4 := hb4.size; have hsy4 := hka.size; (try simp only [World.size_alloc, World.size_drew, World.heap_drewN, World.size_setCell] at hsz4 hsy4); clear hka hb4
  clear hsz4 hsy4
  try generalize Value.agg #[.int .i64 T.ch.dg, .int .i64 T.ch.tn, .string T.ch.nm, .slice A3 T.ch.zs.length c3, .int .i64 T.ch.wd, .int .i64 T.ch.lf, .int .i64 T.ch.rt, .int .i64 T.ad, .int .i64 T.at_, .int .i64 T.bd, .int .i64 T.bt, .int .i64 T.cd, .int .i64 T.ct, .int .i64 T.dd, .int .i64 T.dt, .int .i64 T.ey, .int .i64 T.bo] = vv4
  have HID := Lib.hid hO4.ints
  clear hO4
  have hDn : D.zs.length ≤ 1048576 := by omega
  have hDm : D.nm.size ≤ 1048576 := by omega
  clear hn0 hm0
  go_upto_region 7 with (refine wpList_store_blk (cs := #[.int .i64 D.dg, .int .i64 D.tn, .string D.nm, .slice (some ⟨gd, 0, none⟩) D.zs.length qd, .int .i64 D.wd, .int .i64 D.lf, .int .i64 D.rt]) 30 _ _ _ (Blk.new _ _ _) (by kernel_rfl) rfl (by simp [Value.oneCell']) rfl rfl rfl rfl ?_)
  rw [World.setRow_alloc_new]
  have HD := Lib.hid (by have h := Blk.new w4 30 #[.int .i64 D.dg, .int .i64 D.tn, .string D.nm, .slice (some ⟨gd, 0, none⟩) D.zs.length qd, .int .i64 D.wd, .int .i64 D.lf, .int .i64 D.rt]; (try simp only [World.size_alloc] at h); exact h)
  replace HA := Lib.hid (Byts.alloc (.cells #[.int .i64 D.dg, .int .i64 D.tn, .string D.nm, .slice (some ⟨gd, 0, none⟩) D.zs.length qd, .int .i64 D.wd, .int .i64 D.lf, .int .i64 D.rt] 30) HA.out)
  replace HI := Lib.hid (Ints.alloc (.cells #[.int .i64 D.dg, .int .i64 D.tn, .string D.nm, .slice (some ⟨gd, 0, none⟩) D.zs.length qd, .int .i64 D.wd, .int .i64 D.lf, .int .i64 D.rt] 30) HI.out)
  replace HR := Lib.hid (Blk.alloc (.cells #[.int .i64 D.dg, .int .i64 D.tn, .string D.nm, .slice (some ⟨gd, 0, none⟩) D.zs.length qd, .int .i64 D.wd, .int .i64 D.lf, .int .i64 D.rt] 30) HR.out)
  replace HI2 := Lib.hid (Ints.alloc (.cells #[.int .i64 D.dg, .int .i64 D.tn, .string D.nm, .slice (some ⟨gd, 0, none⟩) D.zs.length qd, .int .i64 D.wd, .int .i64 D.lf, .int .i64 D.rt] 30) HI2.out)
  replace HT := Lib.hid (Blk.alloc (.cells #[.int .i64 D.dg, .int .i64 D.tn, .string D.nm, .slice (some ⟨gd, 0, none⟩) D.zs.length qd, .int .i64 D.wd, .int .i64 D.lf, .int .i64 D.rt] 30) HT.out)
  replace HI3 := Lib.hid (Ints.alloc (.cells #[.int .i64 D.dg, .int .i64 D.tn, .string D.nm, .slice (some ⟨gd, 0, none⟩) D.zs.length qd, .int .i64 D.wd, .int .i64 D.lf, .int .i64 D.rt] 30) HI3.out)
  replace HT2 := Lib.hid (Blk.alloc (.cells #[.int .i64 D.dg, .int .i64 D.tn, .string D.nm, .slice (some ⟨gd, 0, none⟩) D.zs.length qd, .int .i64 D.wd, .int .i64 D.lf, .int .i64 D.rt] 30) HT2.out)
  replace HID := Lib.hid (Ints.alloc (.cells #[.int .i64 D.dg, .int .i64 D.tn, .string D.nm, .slice (some ⟨gd, 0, none⟩) D.zs.length qd, .int .i64 D.wd, .int .i64 D.lf, .int .i64 D.rt] 30) HID.out)
  replace HB := Lib.hid (Bel.alloc HB.out (.cells #[.int .i64 D.dg, .int .i64 D.tn, .string D.nm, .slice (some ⟨gd, 0, none⟩) D.zs.length qd, .int .i64 D.wd, .int .i64 D.lf, .int .i64 D.rt] 30))
  go_wp2_with (first | (refine wpList_load_blkG 30 _ _ (Blk.step (zb0 HB) HD.out) Tryz.underlying30 (by kernel_rfl) rfl rfl (by rfl) ?_))
  go_at_call 10; refine (SafeBound_I D (some ⟨gd, 0, none⟩) qd x hDn hDm _ (by repeat (with_reducible first | exact HID.out | assumption | refine Ints.drew ?_ | refine Ints.drewN _ ?_ | refine Ints.alloc _ ?_ | refine Ints.step (by assumption) ?_))).mono ?_; rintro e w5 ⟨rfl, hb5⟩; have hka := zba HB hb5; (try replace HA := yY hb5 hka HA); (try replace HI := yI hb5 hka HI); (try replace HR := yB hb5 hka HR); (try replace HI2 := yI hb5 hka HI2); (try replace HT := yB hb5 hka HT); (try replace HI3 := yI hb5 hka HI3); (try replace HT2 := yB hb5 hka HT2); (try replace HID := yI hb5 hka HID); (try replace HD := yB hb5 hka HD); replace HB := Lib.hid (Bel.step hb5 (Bel.step hka HB.out)); have hsz5 := hb5.size; have hsy5 := hka.size; (try simp only [World.size_alloc, World.size_drew, World.heap_drewN, World.size_setCell] at hsz5 hsy5); clear hka hb5
  clear hsz5 hsy5
  try generalize Value.agg #[.int .i64 D.dg, .int .i64 D.tn, .string D.nm, .slice (some ⟨gd, 0, none⟩) D.zs.length qd, .int .i64 D.wd, .int .i64 D.lf, .int .i64 D.rt] = vv5
  obtain ⟨sb, hsb⟩ : ∃ k, k = sbR D x := ⟨_, rfl⟩
  obtain ⟨ks, hks⟩ : ∃ k, k = clC D x true := ⟨_, rfl⟩
  rw [← hsb, ← hks]
  have HSB := Lib.hid (And.intro hsb hks)
  clear hsb hks
  go_wp2_with (first | (refine wpList_load_blkG 30 _ _ (Blk.step (zb0 HB) HD.out) Tryz.underlying30 (by kernel_rfl) rfl rfl (by rfl) ?_))
  go_at_call 11; refine (SafeBound_S D (some ⟨gd, 0, none⟩) qd x hDn hDm _ (by repeat (with_reducible first | exact HID.out | assumption | refine Ints.drew ?_ | refine Ints.drewN _ ?_ | refine Ints.alloc _ ?_ | refine Ints.step (by assumption) ?_))).mono ?_; rintro e w6 ⟨rfl, hb6⟩; have hka := zba HB hb6; (try replace HA := yY hb6 hka HA); (try replace HI := yI hb6 hka HI); (try replace HR := yB hb6 hka HR); (try replace HI2 := yI hb6 hka HI2); (try replace HT := yB hb6 hka HT); (try replace HI3 := yI hb6 hka HI3); (try replace HT2 := yB hb6 hka HT2); (try replace HID := yI hb6 hka HID); (try replace HD := yB hb6 hka HD); replace HB := Lib.hid (Bel.step hb6 (Bel.step hka HB.out)); have hsz6 := hb6.size; have hsy6 := hka.size; (try simp only [World.size_alloc, World.size_drew, World.heap_drewN, World.size_setCell] at hsz6 hsy6); clear hka hb6
  clear hsz6 hsy6
  try generalize Value.agg #[.int .i64 D.dg, .int .i64 D.tn, .string D.nm, .slice (some ⟨gd, 0, none⟩) D.zs.length qd, .int .i64 D.wd, .int .i64 D.lf, .int .i64 D.rt] = vv6
  rw [← HSB.out.1, ← HSB.out.2]
  clear HSB hDn hDm
  clear HD HID
  go_wp2_with fail
  go_at_call 12; refine (DrawReadRelease_c A c zs hz _ HA.out).mono ?_; rintro e w7 ⟨Q, gq, qq, ud, ut, vd, vt, rfl, hn0, hm0, hO7, hb7⟩; have hka := zba HB hb7; (try replace HA := yY hb7 hka HA); (try replace HI := yI hb7 hka HI); (try replace HR := yB hb7 hka HR); (try replace HI2 := yI hb7 hka HI2); (try replace HT := yB hb7 hka HT); (try replace HI3 := yI hb7 hka HI3); (try replace HT2 := yB hb7 hka HT2); replace HB := Lib.hid (Bel.step hb7 (Bel.step hka HB.out)); have hsz7 := hb7.size; have hsy7 := hka.size; (try simp only [World.size_alloc, World.size_drew, World.heap_drewN, World.size_setCell] at hsz7 hsy7); clear hka hb7
  clear hsz7 hsy7
  have HIQ := Lib.hid hO7.ints
  clear hO7
  have hQn : Q.ch.zs.length ≤ 1048576 := by omega
  have hQm : Q.ch.nm.size ≤ 1048576 := by omega
  clear hn0 hm0
  have Z0 : Blk (((w7.alloc (.cells #[.int .i64 0, .int .i64 0, .string ⟨#[]⟩, .slice none 0 0, .int .i64 0, .int .i64 0, .int .i64 0, .int .i64 0, .int .i64 0, .int .i64 0, .int .i64 0, .int .i64 0, .int .i64 0, .int .i64 0, .int .i64 0, .int .i64 0, .int .i64 0] 32)).alloc (.cells #[.int .i64 0, .int .i64 0] 25)).alloc (.cells #[.int .i64 0, .int .i64 0] 25)) (w7.heap.size) 32 #[.int .i64 0, .int .i64 0, .string ⟨#[]⟩, .slice none 0 0, .int .i64 0, .int .i64 0, .int .i64 0, .int .i64 0, .int .i64 0, .int .i64 0, .int .i64 0, .int .i64 0, .int .i64 0, .int .i64 0, .int .i64 0, .int .i64 0, .int .i64 0] := Blk.alloc _ (Blk.alloc _ (Blk.new _ _ _))
  have Z1 : Blk (((w7.alloc (.cells #[.int .i64 0, .int .i64 0, .string ⟨#[]⟩, .slice none 0 0, .int .i64 0, .int .i64 0, .int .i64 0, .int .i64 0, .int .i64 0, .int .i64 0, .int .i64 0, .int .i64 0, .int .i64 0, .int .i64 0, .int .i64 0, .int .i64 0, .int .i64 0] 32)).alloc (.cells #[.int .i64 0, .int .i64 0] 25)).alloc (.cells #[.int .i64 0, .int .i64 0] 25)) (w7.heap.size + 1) 25 #[.int .i64 0, .int .i64 0] := Blk.alloc _ (by have h := Blk.new (w7.alloc (.cells #[.int .i64 0, .int .i64 0, .string ⟨#[]⟩, .slice none 0 0, .int .i64 0, .int .i64 0, .int .i64 0, .int .i64 0, .int .i64 0, .int .i64 0, .int .i64 0, .int .i64 0, .int .i64 0, .int .i64 0, .int .i64 0, .int .i64 0, .int .i64 0] 32)) 25 #[.int .i64 0, .int .i64 0]; simp only [World.size_alloc] at h; exact h)
  have Z2 : Blk (((w7.alloc (.cells #[.int .i64 0, .int .i64 0, .string ⟨#[]⟩, .slice none 0 0, .int .i64 0, .int .i64 0, .int .i64 0, .int .i64 0, .int .i64 0, .int .i64 0, .int .i64 0, .int .i64 0, .int .i64 0, .int .i64 0, .int .i64 0, .int .i64 0, .int .i64 0] 32)).alloc (.cells #[.int .i64 0, .int .i64 0] 25)).alloc (.cells #[.int .i64 0, .int .i64 0] 25)) (w7.heap.size + 1 + 1) 25 #[.int .i64 0, .int .i64 0] := by have h := Blk.new ((w7.alloc (.cells #[.int .i64 0, .int .i64 0, .string ⟨#[]⟩, .slice none 0 0, .int .i64 0, .int .i64 0, .int .i64 0, .int .i64 0, .int .i64 0, .int .i64 0, .int .i64 0, .int .i64 0, .int .i64 0, .int .i64 0, .int .i64 0, .int .i64 0, .int .i64 0] 32)).alloc (.cells #[.int .i64 0, .int .i64 0] 25)) 25 #[.int .i64 0, .int .i64 0]; simp only [World.size_alloc] at h; exact h
  go_upto_region 10 with ((refine wpList_store_blk (cs := #[.int .i64 Q.ch.dg, .int .i64 Q.ch.tn, .string Q.ch.nm, .slice (some ⟨gq, 0, none⟩) Q.ch.zs.length qq, .int .i64 Q.ch.wd, .int .i64 Q.ch.lf, .int .i64 Q.ch.rt, .int .i64 Q.ad, .int .i64 Q.at_, .int .i64 Q.bd, .int .i64 Q.bt, .int .i64 Q.cd, .int .i64 Q.ct, .int .i64 Q.dd, .int .i64 Q.dt, .int .i64 Q.ey, .int .i64 Q.bo]) 32 _ _ _ Z0 (by kernel_rfl) rfl (by simp [Value.oneCell']) rfl rfl rfl rfl ?_); go_upto_region 10 with ((refine wpList_store_blk (cs := #[.int .i64 ud, .int .i64 ut]) 25 _ _ _ (Blk.setRow_far _ (by omega) Z1) (by kernel_rfl) rfl (by simp [Value.oneCell']) rfl rfl rfl rfl ?_); go_upto_region 10 with ((refine wpList_store_blk (cs := #[.int .i64 vd, .int .i64 vt]) 25 _ _ _ (Blk.setRow_far _ (by omega) (Blk.setRow_far _ (by omega) Z2)) (by kernel_rfl) rfl (by simp [Value.oneCell']) rfl rfl rfl rfl ?_))))
  have hbig : Below w7.heap.size w7 ((((((w7.alloc (.cells #[.int .i64 0, .int .i64 0, .string ⟨#[]⟩, .slice none 0 0, .int .i64 0, .int .i64 0, .int .i64 0, .int .i64 0, .int .i64 0, .int .i64 0, .int .i64 0, .int .i64 0, .int .i64 0, .int .i64 0, .int .i64 0, .int .i64 0, .int .i64 0] 32)).alloc (.cells #[.int .i64 0, .int .i64 0] 25)).alloc (.cells #[.int .i64 0, .int .i64 0] 25)).setRow (w7.heap.size) #[.int .i64 Q.ch.dg, .int .i64 Q.ch.tn, .string Q.ch.nm, .slice (some ⟨gq, 0, none⟩) Q.ch.zs.length qq, .int .i64 Q.ch.wd, .int .i64 Q.ch.lf, .int .i64 Q.ch.rt, .int .i64 Q.ad, .int .i64 Q.at_, .int .i64 Q.bd, .int .i64 Q.bt, .int .i64 Q.cd, .int .i64 Q.ct, .int .i64 Q.dd, .int .i64 Q.dt, .int .i64 Q.ey, .int .i64 Q.bo]).setRow (w7.heap.size + 1) #[.int .i64 ud, .int .i64 ut]).setRow (w7.heap.size + 1 + 1) #[.int .i64 vd, .int .i64 vt]) := (Bel.setRow (Bel.setRow (Bel.setRow (Bel.alloc (Bel.alloc (Bel.alloc (Below.refl _ _) _) _) _) (by omega) _) (by omega) _) (by omega) _)
  have HQ : Hid (Blk ((((((w7.alloc (.cells #[.int .i64 0, .int .i64 0, .string ⟨#[]⟩, .slice none 0 0, .int .i64 0, .int .i64 0, .int .i64 0, .int .i64 0, .int .i64 0, .int .i64 0, .int .i64 0, .int .i64 0, .int .i64 0, .int .i64 0, .int .i64 0, .int .i64 0, .int .i64 0] 32)).alloc (.cells #[.int .i64 0, .int .i64 0] 25)).alloc (.cells #[.int .i64 0, .int .i64 0] 25)).setRow (w7.heap.size) #[.int .i64 Q.ch.dg, .int .i64 Q.ch.tn, .string Q.ch.nm, .slice (some ⟨gq, 0, none⟩) Q.ch.zs.length qq, .int .i64 Q.ch.wd, .int .i64 Q.ch.lf, .int .i64 Q.ch.rt, .int .i64 Q.ad, .int .i64 Q.at_, .int .i64 Q.bd, .int .i64 Q.bt, .int .i64 Q.cd, .int .i64 Q.ct, .int .i64 Q.dd, .int .i64 Q.dt, .int .i64 Q.ey, .int .i64 Q.bo]).setRow (w7.heap.size + 1) #[.int .i64 ud, .int .i64 ut]).setRow (w7.heap.size + 1 + 1) #[.int .i64 vd, .int .i64 vt]) (w7.heap.size) 32 #[.int .i64 Q.ch.dg, .int .i64 Q.ch.tn, .string Q.ch.nm, .slice (some ⟨gq, 0, none⟩) Q.ch.zs.length qq, .int .i64 Q.ch.wd, .int .i64 Q.ch.lf, .int .i64 Q.ch.rt, .int .i64 Q.ad, .int .i64 Q.at_, .int .i64 Q.bd, .int .i64 Q.bt, .int .i64 Q.cd, .int .i64 Q.ct, .int .i64 Q.dd, .int .i64 Q.dt, .int .i64 Q.ey, .int .i64 Q.bo]) := Lib.hid (Blk.setRow_far _ (by omega) (Blk.setRow_far _ (by omega) (Blk.setRow _ Z0)))
  have HU : Hid (Blk ((((((w7.alloc (.cells #[.int .i64 0, .int .i64 0, .string ⟨#[]⟩, .slice none 0 0, .int .i64 0, .int .i64 0, .int .i64 0, .int .i64 0, .int .i64 0, .int .i64 0, .int .i64 0, .int .i64 0, .int .i64 0, .int .i64 0, .int .i64 0, .int .i64 0, .int .i64 0] 32)).alloc (.cells #[.int .i64 0, .int .i64 0] 25)).alloc (.cells #[.int .i64 0, .int .i64 0] 25)).setRow (w7.heap.size) #[.int .i64 Q.ch.dg, .int .i64 Q.ch.tn, .string Q.ch.nm, .slice (some ⟨gq, 0, none⟩) Q.ch.zs.length qq, .int .i64 Q.ch.wd, .int .i64 Q.ch.lf, .int .i64 Q.ch.rt, .int .i64 Q.ad, .int .i64 Q.at_, .int .i64 Q.bd, .int .i64 Q.bt, .int .i64 Q.cd, .int .i64 Q.ct, .int .i64 Q.dd, .int .i64 Q.dt, .int .i64 Q.ey, .int .i64 Q.bo]).setRow (w7.heap.size + 1) #[.int .i64 ud, .int .i64 ut]).setRow (w7.heap.size + 1 + 1) #[.int .i64 vd, .int .i64 vt]) (w7.heap.size + 1) 25 #[.int .i64 ud, .int .i64 ut]) := Lib.hid (Blk.setRow_far _ (by omega) (Blk.setRow _ (Blk.setRow_far _ (by omega) Z1)))
  have HV : Hid (Blk ((((((w7.alloc (.cells #[.int .i64 0, .int .i64 0, .string ⟨#[]⟩, .slice none 0 0, .int .i64 0, .int .i64 0, .int .i64 0, .int .i64 0, .int .i64 0, .int .i64 0, .int .i64 0, .int .i64 0, .int .i64 0, .int .i64 0, .int .i64 0, .int .i64 0, .int .i64 0] 32)).alloc (.cells #[.int .i64 0, .int .i64 0] 25)).alloc (.cells #[.int .i64 0, .int .i64 0] 25)).setRow (w7.heap.size) #[.int .i64 Q.ch.dg, .int .i64 Q.ch.tn, .string Q.ch.nm, .slice (some ⟨gq, 0, none⟩) Q.ch.zs.length qq, .int .i64 Q.ch.wd, .int .i64 Q.ch.lf, .int .i64 Q.ch.rt, .int .i64 Q.ad, .int .i64 Q.at_, .int .i64 Q.bd, .int .i64 Q.bt, .int .i64 Q.cd, .int .i64 Q.ct, .int .i64 Q.dd, .int .i64 Q.dt, .int .i64 Q.ey, .int .i64 Q.bo]).setRow (w7.heap.size + 1) #[.int .i64 ud, .int .i64 ut]).setRow (w7.heap.size + 1 + 1) #[.int .i64 vd, .int .i64 vt]) (w7.heap.size + 1 + 1) 25 #[.int .i64 vd, .int .i64 vt]) := Lib.hid (Blk.setRow _ (Blk.setRow_far _ (by omega) (Blk.setRow_far _ (by omega) Z2)))
  replace HA := Lib.hid (Byts.step hbig HA.out)
  replace HI := Lib.hid (Ints.step hbig HI.out)
  replace HR := Lib.hid (Blk.step hbig HR.out)
  replace HI2 := Lib.hid (Ints.step hbig HI2.out)
  replace HT := Lib.hid (Blk.step hbig HT.out)
  replace HI3 := Lib.hid (Ints.step hbig HI3.out)
  replace HT2 := Lib.hid (Blk.step hbig HT2.out)
  replace HIQ := Lib.hid (Ints.step hbig HIQ.out)
  replace HB := Lib.hid (Bel.step hbig HB.out)
  clear hbig Z0 Z1 Z2
  generalize ((((((w7.alloc (.cells #[.int .i64 0, .int .i64 0, .string ⟨#[]⟩, .slice none 0 0, .int .i64 0, .int .i64 0, .int .i64 0, .int .i64 0, .int .i64 0, .int .i64 0, .int .i64 0, .int .i64 0, .int .i64 0, .int .i64 0, .int .i64 0, .int .i64 0, .int .i64 0] 32)).alloc (.cells #[.int .i64 0, .int .i64 0] 25)).alloc (.cells #[.int .i64 0, .int .i64 0] 25)).setRow (w7.heap.size) #[.int .i64 Q.ch.dg, .int .i64 Q.ch.tn, .string Q.ch.nm, .slice (some ⟨gq, 0, none⟩) Q.ch.zs.length qq, .int .i64 Q.ch.wd, .int .i64 Q.ch.lf, .int .i64 Q.ch.rt, .int .i64 Q.ad, .int .i64 Q.at_, .int .i64 Q.bd, .int .i64 Q.bt, .int .i64 Q.cd, .int .i64 Q.ct, .int .i64 Q.dd, .int .i64 Q.dt, .int .i64 Q.ey, .int .i64 Q.bo]).setRow (w7.heap.size + 1) #[.int .i64 ud, .int .i64 ut]).setRow (w7.heap.size + 1 + 1) #[.int .i64 vd, .int .i64 vt]) = V7 at HB HA HI HR HI2 HT HI3 HT2 HIQ HQ HU HV ⊢
  go_wp2_with (first | (refine wpList_load_blkG 32 _ _ (Blk.step (zb0 HB) HQ.out) Tryz.underlying32 (by kernel_rfl) rfl rfl (by rfl) ?_) | (refine wpList_load_blkG 25 _ _ (Blk.step (zb0 HB) HU.out) Tryz.underlying25 (by kernel_rfl) rfl rfl (by rfl) ?_) | (refine wpList_load_blkG 25 _ _ (Blk.step (zb0 HB) HV.out) Tryz.underlying25 (by kernel_rfl) rfl rfl (by rfl) ?_))
  go_at_call 13; refine (ReadRelease_I Q (some ⟨gq, 0, none⟩) qq ud ut vd vt hQn hQm _ (by repeat (with_reducible first | exact HIQ.out | assumption | refine Ints.drew ?_ | refine Ints.drewN _ ?_ | refine Ints.alloc _ ?_ | refine Ints.step (by assumption) ?_))).mono ?_; rintro e w8 ⟨rfl, hb8⟩; have hka := zba HB hb8; (try replace HA := yY hb8 hka HA); (try replace HI := yI hb8 hka HI); (try replace HR := yB hb8 hka HR); (try replace HI2 := yI hb8 hka HI2); (try replace HT := yB hb8 hka HT); (try replace HI3 := yI hb8 hka HI3); (try replace HT2 := yB hb8 hka HT2); (try replace HIQ := yI hb8 hka HIQ); (try replace HQ := yB hb8 hka HQ); (try replace HU := yB hb8 hka HU); (try replace HV := yB hb8 hka HV); replace HB := Lib.hid (Bel.step hb8 (Bel.step hka HB.out)); have hsz8 := hb8.size; have hsy8 := hka.size; (try simp only [World.size_alloc, World.size_drew, World.heap_drewN, World.size_setCell] at hsz8 hsy8); clear hka hb8
  clear hsz8 hsy8
  try generalize Value.agg #[.int .i64 Q.ch.dg, .int .i64 Q.ch.tn, .string Q.ch.nm, .slice (some ⟨gq, 0, none⟩) Q.ch.zs.length qq, .int .i64 Q.ch.wd, .int .i64 Q.ch.lf, .int .i64 Q.ch.rt, .int .i64 Q.ad, .int .i64 Q.at_, .int .i64 Q.bd, .int .i64 Q.bt, .int .i64 Q.cd, .int .i64 Q.ct, .int .i64 Q.dd, .int .i64 Q.dt, .int .i64 Q.ey, .int .i64 Q.bo] = vv7
  have hres := fun h => rl_es (R := Q) (ud := ud) (ut := ut) (vd := vd) (vt := vt) h
  obtain ⟨a0, ha0⟩ : ∃ k, k = rl0 Q ud ut vd vt := ⟨_, rfl⟩
  obtain ⟨a1, ha1⟩ : ∃ k, k = rl1 Q ud ut vd vt := ⟨_, rfl⟩
  obtain ⟨a2, ha2⟩ : ∃ k, k = rl2 Q ud ut vd vt := ⟨_, rfl⟩
  obtain ⟨a3, ha3⟩ : ∃ k, k = rl3 Q ud ut vd vt := ⟨_, rfl⟩
  obtain ⟨ka, hka⟩ : ∃ k, k = rlC Q ud ut vd vt := ⟨_, rfl⟩
  rw [← ha0, ← ha1, ← ha2, ← ha3, ← hka] at hres ⊢
  have HAV := Lib.hid (And.intro ha0 (And.intro ha1 (And.intro ha2 (And.intro ha3 hka))))
  clear ha0 ha1 ha2 ha3 hka
  have HES := Lib.hid hres
  clear hres
  have HP1 := Lib.hid (by have h := Blk.new w8 25 #[.int .i64 a0, .int .i64 a1]; (try simp only [World.size_alloc] at h); exact h)
  replace HA := Lib.hid (Byts.alloc (.cells #[.int .i64 a0, .int .i64 a1] 25) HA.out)
  replace HI := Lib.hid (Ints.alloc (.cells #[.int .i64 a0, .int .i64 a1] 25) HI.out)
  replace HR := Lib.hid (Blk.alloc (.cells #[.int .i64 a0, .int .i64 a1] 25) HR.out)
  replace HI2 := Lib.hid (Ints.alloc (.cells #[.int .i64 a0, .int .i64 a1] 25) HI2.out)
  replace HT := Lib.hid (Blk.alloc (.cells #[.int .i64 a0, .int .i64 a1] 25) HT.out)
  replace HI3 := Lib.hid (Ints.alloc (.cells #[.int .i64 a0, .int .i64 a1] 25) HI3.out)
  replace HT2 := Lib.hid (Blk.alloc (.cells #[.int .i64 a0, .int .i64 a1] 25) HT2.out)
  replace HIQ := Lib.hid (Ints.alloc (.cells #[.int .i64 a0, .int .i64 a1] 25) HIQ.out)
  replace HQ := Lib.hid (Blk.alloc (.cells #[.int .i64 a0, .int .i64 a1] 25) HQ.out)
  replace HU := Lib.hid (Blk.alloc (.cells #[.int .i64 a0, .int .i64 a1] 25) HU.out)
  replace HV := Lib.hid (Blk.alloc (.cells #[.int .i64 a0, .int .i64 a1] 25) HV.out)
  replace HB := Lib.hid (Bel.alloc HB.out (.cells #[.int .i64 a0, .int .i64 a1] 25))
  have HP2 := Lib.hid (by have h := Blk.new (w8.alloc (.cells #[.int .i64 a0, .int .i64 a1] 25)) 25 #[.int .i64 a2, .int .i64 a3]; (try simp only [World.size_alloc] at h); exact h)
  replace HA := Lib.hid (Byts.alloc (.cells #[.int .i64 a2, .int .i64 a3] 25) HA.out)
  replace HI := Lib.hid (Ints.alloc (.cells #[.int .i64 a2, .int .i64 a3] 25) HI.out)
  replace HR := Lib.hid (Blk.alloc (.cells #[.int .i64 a2, .int .i64 a3] 25) HR.out)
  replace HI2 := Lib.hid (Ints.alloc (.cells #[.int .i64 a2, .int .i64 a3] 25) HI2.out)
  replace HT := Lib.hid (Blk.alloc (.cells #[.int .i64 a2, .int .i64 a3] 25) HT.out)
  replace HI3 := Lib.hid (Ints.alloc (.cells #[.int .i64 a2, .int .i64 a3] 25) HI3.out)
  replace HT2 := Lib.hid (Blk.alloc (.cells #[.int .i64 a2, .int .i64 a3] 25) HT2.out)
  replace HIQ := Lib.hid (Ints.alloc (.cells #[.int .i64 a2, .int .i64 a3] 25) HIQ.out)
  replace HQ := Lib.hid (Blk.alloc (.cells #[.int .i64 a2, .int .i64 a3] 25) HQ.out)
  replace HU := Lib.hid (Blk.alloc (.cells #[.int .i64 a2, .int .i64 a3] 25) HU.out)
  replace HV := Lib.hid (Blk.alloc (.cells #[.int .i64 a2, .int .i64 a3] 25) HV.out)
  replace HP1 := Lib.hid (Blk.alloc (.cells #[.int .i64 a2, .int .i64 a3] 25) HP1.out)
  replace HB := Lib.hid (Bel.alloc HB.out (.cells #[.int .i64 a2, .int .i64 a3] 25))
  go_wp2_with (first | (refine wpList_load_blkG 32 _ _ (Blk.step (zb0 HB) HQ.out) Tryz.underlying32 (by kernel_rfl) rfl rfl (by rfl) ?_) | (refine wpList_load_blkG 25 _ _ (Blk.step (zb0 HB) HU.out) Tryz.underlying25 (by kernel_rfl) rfl rfl (by rfl) ?_) | (refine wpList_load_blkG 25 _ _ (Blk.step (zb0 HB) HV.out) Tryz.underlying25 (by kernel_rfl) rfl rfl (by rfl) ?_))
  go_at_call 14; refine (ReadRelease_S Q (some ⟨gq, 0, none⟩) qq ud ut vd vt hQn hQm _ (by repeat (with_reducible first | exact HIQ.out | assumption | refine Ints.drew ?_ | refine Ints.drewN _ ?_ | refine Ints.alloc _ ?_ | refine Ints.step (by assumption) ?_))).mono ?_; rintro e w9 ⟨rfl, hb9⟩; have hka := zba HB hb9; (try replace HA := yY hb9 hka HA); (try replace HI := yI hb9 hka HI); (try replace HR := yB hb9 hka HR); (try replace HI2 := yI hb9 hka HI2); (try replace HT := yB hb9 hka HT); (try replace HI3 := yI hb9 hka HI3); (try replace HT2 := yB hb9 hka HT2); (try replace HIQ := yI hb9 hka HIQ); (try replace HQ := yB hb9 hka HQ); (try replace HU := yB hb9 hka HU); (try replace HV := yB hb9 hka HV); (try replace HP1 := yB hb9 hka HP1); (try replace HP2 := yB hb9 hka HP2); replace HB := Lib.hid (Bel.step hb9 (Bel.step hka HB.out)); have hsz9 := hb9.size; have hsy9 := hka.size; (try simp only [World.size_alloc, World.size_drew, World.heap_drewN, World.size_setCell] at hsz9 hsy9); clear hka hb9
  clear hsz9 hsy9
  try generalize Value.agg #[.int .i64 Q.ch.dg, .int .i64 Q.ch.tn, .string Q.ch.nm, .slice (some ⟨gq, 0, none⟩) Q.ch.zs.length qq, .int .i64 Q.ch.wd, .int .i64 Q.ch.lf, .int .i64 Q.ch.rt, .int .i64 Q.ad, .int .i64 Q.at_, .int .i64 Q.bd, .int .i64 Q.bt, .int .i64 Q.cd, .int .i64 Q.ct, .int .i64 Q.dd, .int .i64 Q.dt, .int .i64 Q.ey, .int .i64 Q.bo] = vv8
  rw [← HAV.out.1, ← HAV.out.2.1, ← HAV.out.2.2.1, ← HAV.out.2.2.2.1, ← HAV.out.2.2.2.2]
  clear HAV
  have HP3 := Lib.hid (by have h := Blk.new w9 25 #[.int .i64 a0, .int .i64 a1]; (try simp only [World.size_alloc] at h); exact h)
  replace HA := Lib.hid (Byts.alloc (.cells #[.int .i64 a0, .int .i64 a1] 25) HA.out)
  replace HI := Lib.hid (Ints.alloc (.cells #[.int .i64 a0, .int .i64 a1] 25) HI.out)
  replace HR := Lib.hid (Blk.alloc (.cells #[.int .i64 a0, .int .i64 a1] 25) HR.out)
  replace HI2 := Lib.hid (Ints.alloc (.cells #[.int .i64 a0, .int .i64 a1] 25) HI2.out)
  replace HT := Lib.hid (Blk.alloc (.cells #[.int .i64 a0, .int .i64 a1] 25) HT.out)
  replace HI3 := Lib.hid (Ints.alloc (.cells #[.int .i64 a0, .int .i64 a1] 25) HI3.out)
  replace HT2 := Lib.hid (Blk.alloc (.cells #[.int .i64 a0, .int .i64 a1] 25) HT2.out)
  replace HIQ := Lib.hid (Ints.alloc (.cells #[.int .i64 a0, .int .i64 a1] 25) HIQ.out)
  replace HQ := Lib.hid (Blk.alloc (.cells #[.int .i64 a0, .int .i64 a1] 25) HQ.out)
  replace HU := Lib.hid (Blk.alloc (.cells #[.int .i64 a0, .int .i64 a1] 25) HU.out)
  replace HV := Lib.hid (Blk.alloc (.cells #[.int .i64 a0, .int .i64 a1] 25) HV.out)
  replace HP1 := Lib.hid (Blk.alloc (.cells #[.int .i64 a0, .int .i64 a1] 25) HP1.out)
  replace HP2 := Lib.hid (Blk.alloc (.cells #[.int .i64 a0, .int .i64 a1] 25) HP2.out)
  replace HB := Lib.hid (Bel.alloc HB.out (.cells #[.int .i64 a0, .int .i64 a1] 25))
  have HP4 := Lib.hid (by have h := Blk.new (w9.alloc (.cells #[.int .i64 a0, .int .i64 a1] 25)) 25 #[.int .i64 a2, .int .i64 a3]; (try simp only [World.size_alloc] at h); exact h)
  replace HA := Lib.hid (Byts.alloc (.cells #[.int .i64 a2, .int .i64 a3] 25) HA.out)
  replace HI := Lib.hid (Ints.alloc (.cells #[.int .i64 a2, .int .i64 a3] 25) HI.out)
  replace HR := Lib.hid (Blk.alloc (.cells #[.int .i64 a2, .int .i64 a3] 25) HR.out)
  replace HI2 := Lib.hid (Ints.alloc (.cells #[.int .i64 a2, .int .i64 a3] 25) HI2.out)
  replace HT := Lib.hid (Blk.alloc (.cells #[.int .i64 a2, .int .i64 a3] 25) HT.out)
  replace HI3 := Lib.hid (Ints.alloc (.cells #[.int .i64 a2, .int .i64 a3] 25) HI3.out)
  replace HT2 := Lib.hid (Blk.alloc (.cells #[.int .i64 a2, .int .i64 a3] 25) HT2.out)
  replace HIQ := Lib.hid (Ints.alloc (.cells #[.int .i64 a2, .int .i64 a3] 25) HIQ.out)
  replace HQ := Lib.hid (Blk.alloc (.cells #[.int .i64 a2, .int .i64 a3] 25) HQ.out)
  replace HU := Lib.hid (Blk.alloc (.cells #[.int .i64 a2, .int .i64 a3] 25) HU.out)
  replace HV := Lib.hid (Blk.alloc (.cells #[.int .i64 a2, .int .i64 a3] 25) HV.out)
  replace HP1 := Lib.hid (Blk.alloc (.cells #[.int .i64 a2, .int .i64 a3] 25) HP1.out)
  replace HP2 := Lib.hid (Blk.alloc (.cells #[.int .i64 a2, .int .i64 a3] 25) HP2.out)
  replace HP3 := Lib.hid (Blk.alloc (.cells #[.int .i64 a2, .int .i64 a3] 25) HP3.out)
  replace HB := Lib.hid (Bel.alloc HB.out (.cells #[.int .i64 a2, .int .i64 a3] 25))
  go_wp2_with (first | (refine wpList_load_blkG 32 _ _ (Blk.step (zb0 HB) HQ.out) Tryz.underlying32 (by kernel_rfl) rfl rfl (by rfl) ?_) | (refine wpList_load_blkG 25 _ _ (Blk.step (zb0 HB) HU.out) Tryz.underlying25 (by kernel_rfl) rfl rfl (by rfl) ?_) | (refine wpList_load_blkG 25 _ _ (Blk.step (zb0 HB) HV.out) Tryz.underlying25 (by kernel_rfl) rfl rfl (by rfl) ?_))
  go_at_call 15; refine (IsCovered_I Q (some ⟨gq, 0, none⟩) qq ud ut vd vt hQn hQm _ (by repeat (with_reducible first | exact HIQ.out | assumption | refine Ints.drew ?_ | refine Ints.drewN _ ?_ | refine Ints.alloc _ ?_ | refine Ints.step (by assumption) ?_))).mono ?_; rintro e w10 ⟨rfl, hb10⟩; have hka := zba HB hb10; (try replace HA := yY hb10 hka HA); (try replace HI := yI hb10 hka HI); (try replace HR := yB hb10 hka HR); (try replace HI2 := yI hb10 hka HI2); (try replace HT := yB hb10 hka HT); (try replace HI3 := yI hb10 hka HI3); (try replace HT2 := yB hb10 hka HT2); (try replace HIQ := yI hb10 hka HIQ); (try replace HQ := yB hb10 hka HQ); (try replace HU := yB hb10 hka HU); (try replace HV := yB hb10 hka HV); (try replace HP1 := yB hb10 hka HP1); (try replace HP2 := yB hb10 hka HP2); (try replace HP3 := yB hb10 hka HP3); (try replace HP4 := yB hb10 hka HP4); replace HB := Lib.hid (Bel.step hb10 (Bel.step hka HB.out)); have hsz10 := hb10.size; have hsy10 := hka.size; (try simp only [World.size_alloc, World.size_drew, World.heap_drewN, World.size_setCell] at hsz10 hsy10); clear hka hb10
  clear hsz10 hsy10
  try generalize Value.agg #[.int .i64 Q.ch.dg, .int .i64 Q.ch.tn, .string Q.ch.nm, .slice (some ⟨gq, 0, none⟩) Q.ch.zs.length qq, .int .i64 Q.ch.wd, .int .i64 Q.ch.lf, .int .i64 Q.ch.rt, .int .i64 Q.ad, .int .i64 Q.at_, .int .i64 Q.bd, .int .i64 Q.bt, .int .i64 Q.cd, .int .i64 Q.ct, .int .i64 Q.dd, .int .i64 Q.dt, .int .i64 Q.ey, .int .i64 Q.bo] = vv9
  have hic := fun h => ic_is (R := Q) (ud := ud) (ut := ut) (vd := vd) (vt := vt) h
  obtain ⟨ok, hok⟩ : ∃ k, k = icB Q ud ut vd vt := ⟨_, rfl⟩
  obtain ⟨kc, hkc⟩ : ∃ k, k = pkC Q ud ut vd vt := ⟨_, rfl⟩
  rw [← hok, ← hkc] at hic ⊢
  have HCV := Lib.hid (And.intro hok hkc)
  clear hok hkc
  have HIC := Lib.hid hic
  clear hic
  go_wp2_with (first | (refine wpList_load_blkG 32 _ _ (Blk.step (zb0 HB) HQ.out) Tryz.underlying32 (by kernel_rfl) rfl rfl (by rfl) ?_) | (refine wpList_load_blkG 25 _ _ (Blk.step (zb0 HB) HU.out) Tryz.underlying25 (by kernel_rfl) rfl rfl (by rfl) ?_) | (refine wpList_load_blkG 25 _ _ (Blk.step (zb0 HB) HV.out) Tryz.underlying25 (by kernel_rfl) rfl rfl (by rfl) ?_))
  go_at_call 16; refine (IsCovered_S Q (some ⟨gq, 0, none⟩) qq ud ut vd vt hQn hQm _ (by repeat (with_reducible first | exact HIQ.out | assumption | refine Ints.drew ?_ | refine Ints.drewN _ ?_ | refine Ints.alloc _ ?_ | refine Ints.step (by assumption) ?_))).mono ?_; rintro e w11 ⟨rfl, hb11⟩; have hka := zba HB hb11; (try replace HA := yY hb11 hka HA); (try replace HI := yI hb11 hka HI); (try replace HR := yB hb11 hka HR); (try replace HI2 := yI hb11 hka HI2); (try replace HT := yB hb11 hka HT); (try replace HI3 := yI hb11 hka HI3); (try replace HT2 := yB hb11 hka HT2); (try replace HIQ := yI hb11 hka HIQ); (try replace HQ := yB hb11 hka HQ); (try replace HU := yB hb11 hka HU); (try replace HV := yB hb11 hka HV); (try replace HP1 := yB hb11 hka HP1); (try replace HP2 := yB hb11 hka HP2); (try replace HP3 := yB hb11 hka HP3); (try replace HP4 := yB hb11 hka HP4); replace HB := Lib.hid (Bel.step hb11 (Bel.step hka HB.out)); have hsz11 := hb11.size; have hsy11 := hka.size; (try simp only [World.size_alloc, World.size_drew, World.heap_drewN, World.size_setCell] at hsz11 hsy11); clear hka hb11
  clear hsz11 hsy11
  try generalize Value.agg #[.int .i64 Q.ch.dg, .int .i64 Q.ch.tn, .string Q.ch.nm, .slice (some ⟨gq, 0, none⟩) Q.ch.zs.length qq, .int .i64 Q.ch.wd, .int .i64 Q.ch.lf, .int .i64 Q.ch.rt, .int .i64 Q.ad, .int .i64 Q.at_, .int .i64 Q.bd, .int .i64 Q.bt, .int .i64 Q.cd, .int .i64 Q.ct, .int .i64 Q.dd, .int .i64 Q.dt, .int .i64 Q.ey, .int .i64 Q.bo] = vv10
  rw [← HCV.out.1, ← HCV.out.2]
  clear HCV
  go_wp2_with fail
  go_at_call 17; refine (DrawWidestRange_c A c zs hz _ HA.out).mono ?_; rintro e w12 ⟨X, gx, qx, fd, ft, rfl, hn0, hm0, hO12, hb12⟩; have hka := zba HB hb12; (try replace HA := yY hb12 hka HA); (try replace HI := yI hb12 hka HI); (try replace HR := yB hb12 hka HR); (try replace HI2 := yI hb12 hka HI2); (try replace HT := yB hb12 hka HT); (try replace HI3 := yI hb12 hka HI3); (try replace HT2 := yB hb12 hka HT2); (try replace HIQ := yI hb12 hka HIQ); (try replace HQ := yB hb12 hka HQ); (try replace HU := yB hb12 hka HU); (try replace HV := yB hb12 hka HV); (try replace HP1 := yB hb12 hka HP1); (try replace HP2 := yB hb12 hka HP2); (try replace HP3 := yB hb12 hka HP3); (try replace HP4 := yB hb12 hka HP4); replace HB := Lib.hid (Bel.step hb12 (Bel.step hka HB.out)); have hsz12 := hb12.size; have hsy12 := hka.size; (try simp only [World.size_alloc, World.size_drew, World.heap_drewN, World.size_setCell] at hsz12 hsy12); clear hka hb12
  clear hsz12 hsy12
  clear HA
  have HIX := Lib.hid hO12.ints
  clear hO12
  have hXn : X.ch.zs.length ≤ 1048576 := by omega
  have hXm : X.ch.nm.size ≤ 1048576 := by omega
  clear hn0 hm0
  have Z0 : Blk ((w12.alloc (.cells #[.int .i64 0, .int .i64 0, .string ⟨#[]⟩, .slice none 0 0, .int .i64 0, .int .i64 0, .int .i64 0, .int .i64 0, .int .i64 0, .int .i64 0, .int .i64 0, .int .i64 0, .int .i64 0, .int .i64 0, .int .i64 0, .int .i64 0, .int .i64 0] 32)).alloc (.cells #[.int .i64 0, .int .i64 0] 25)) (w12.heap.size) 32 #[.int .i64 0, .int .i64 0, .string ⟨#[]⟩, .slice none 0 0, .int .i64 0, .int .i64 0, .int .i64 0, .int .i64 0, .int .i64 0, .int .i64 0, .int .i64 0, .int .i64 0, .int .i64 0, .int .i64 0, .int .i64 0, .int .i64 0, .int .i64 0] := Blk.alloc _ (Blk.new _ _ _)
  have Z1 : Blk ((w12.alloc (.cells #[.int .i64 0, .int .i64 0, .string ⟨#[]⟩, .slice none 0 0, .int .i64 0, .int .i64 0, .int .i64 0, .int .i64 0, .int .i64 0, .int .i64 0, .int .i64 0, .int .i64 0, .int .i64 0, .int .i64 0, .int .i64 0, .int .i64 0, .int .i64 0] 32)).alloc (.cells #[.int .i64 0, .int .i64 0] 25)) (w12.heap.size + 1) 25 #[.int .i64 0, .int .i64 0] := by have h := Blk.new (w12.alloc (.cells #[.int .i64 0, .int .i64 0, .string ⟨#[]⟩, .slice none 0 0, .int .i64 0, .int .i64 0, .int .i64 0, .int .i64 0, .int .i64 0, .int .i64 0, .int .i64 0, .int .i64 0, .int .i64 0, .int .i64 0, .int .i64 0, .int .i64 0, .int .i64 0] 32)) 25 #[.int .i64 0, .int .i64 0]; simp only [World.size_alloc] at h; exact h
  go_upto_region 15 with ((refine wpList_store_blk (cs := #[.int .i64 X.ch.dg, .int .i64 X.ch.tn, .string X.ch.nm, .slice (some ⟨gx, 0, none⟩) X.ch.zs.length qx, .int .i64 X.ch.wd, .int .i64 X.ch.lf, .int .i64 X.ch.rt, .int .i64 X.ad, .int .i64 X.at_, .int .i64 X.bd, .int .i64 X.bt, .int .i64 X.cd, .int .i64 X.ct, .int .i64 X.dd, .int .i64 X.dt, .int .i64 X.ey, .int .i64 X.bo]) 32 _ _ _ Z0 (by kernel_rfl) rfl (by simp [Value.oneCell']) rfl rfl rfl rfl ?_); go_upto_region 15 with ((refine wpList_store_blk (cs := #[.int .i64 fd, .int .i64 ft]) 25 _ _ _ (Blk.setRow_far _ (by omega) Z1) (by kernel_rfl) rfl (by simp [Value.oneCell']) rfl rfl rfl rfl ?_)))
  have hbig : Below w12.heap.size w12 ((((w12.alloc (.cells #[.int .i64 0, .int .i64 0, .string ⟨#[]⟩, .slice none 0 0, .int .i64 0, .int .i64 0, .int .i64 0, .int .i64 0, .int .i64 0, .int .i64 0, .int .i64 0, .int .i64 0, .int .i64 0, .int .i64 0, .int .i64 0, .int .i64 0, .int .i64 0] 32)).alloc (.cells #[.int .i64 0, .int .i64 0] 25)).setRow (w12.heap.size) #[.int .i64 X.ch.dg, .int .i64 X.ch.tn, .string X.ch.nm, .slice (some ⟨gx, 0, none⟩) X.ch.zs.length qx, .int .i64 X.ch.wd, .int .i64 X.ch.lf, .int .i64 X.ch.rt, .int .i64 X.ad, .int .i64 X.at_, .int .i64 X.bd, .int .i64 X.bt, .int .i64 X.cd, .int .i64 X.ct, .int .i64 X.dd, .int .i64 X.dt, .int .i64 X.ey, .int .i64 X.bo]).setRow (w12.heap.size + 1) #[.int .i64 fd, .int .i64 ft]) := (Bel.setRow (Bel.setRow (Bel.alloc (Bel.alloc (Below.refl _ _) _) _) (by omega) _) (by omega) _)
  have HX : Hid (Blk ((((w12.alloc (.cells #[.int .i64 0, .int .i64 0, .string ⟨#[]⟩, .slice none 0 0, .int .i64 0, .int .i64 0, .int .i64 0, .int .i64 0, .int .i64 0, .int .i64 0, .int .i64 0, .int .i64 0, .int .i64 0, .int .i64 0, .int .i64 0, .int .i64 0, .int .i64 0] 32)).alloc (.cells #[.int .i64 0, .int .i64 0] 25)).setRow (w12.heap.size) #[.int .i64 X.ch.dg, .int .i64 X.ch.tn, .string X.ch.nm, .slice (some ⟨gx, 0, none⟩) X.ch.zs.length qx, .int .i64 X.ch.wd, .int .i64 X.ch.lf, .int .i64 X.ch.rt, .int .i64 X.ad, .int .i64 X.at_, .int .i64 X.bd, .int .i64 X.bt, .int .i64 X.cd, .int .i64 X.ct, .int .i64 X.dd, .int .i64 X.dt, .int .i64 X.ey, .int .i64 X.bo]).setRow (w12.heap.size + 1) #[.int .i64 fd, .int .i64 ft]) (w12.heap.size) 32 #[.int .i64 X.ch.dg, .int .i64 X.ch.tn, .string X.ch.nm, .slice (some ⟨gx, 0, none⟩) X.ch.zs.length qx, .int .i64 X.ch.wd, .int .i64 X.ch.lf, .int .i64 X.ch.rt, .int .i64 X.ad, .int .i64 X.at_, .int .i64 X.bd, .int .i64 X.bt, .int .i64 X.cd, .int .i64 X.ct, .int .i64 X.dd, .int .i64 X.dt, .int .i64 X.ey, .int .i64 X.bo]) := Lib.hid (Blk.setRow_far _ (by omega) (Blk.setRow _ Z0))
  have HF : Hid (Blk ((((w12.alloc (.cells #[.int .i64 0, .int .i64 0, .string ⟨#[]⟩, .slice none 0 0, .int .i64 0, .int .i64 0, .int .i64 0, .int .i64 0, .int .i64 0, .int .i64 0, .int .i64 0, .int .i64 0, .int .i64 0, .int .i64 0, .int .i64 0, .int .i64 0, .int .i64 0] 32)).alloc (.cells #[.int .i64 0, .int .i64 0] 25)).setRow (w12.heap.size) #[.int .i64 X.ch.dg, .int .i64 X.ch.tn, .string X.ch.nm, .slice (some ⟨gx, 0, none⟩) X.ch.zs.length qx, .int .i64 X.ch.wd, .int .i64 X.ch.lf, .int .i64 X.ch.rt, .int .i64 X.ad, .int .i64 X.at_, .int .i64 X.bd, .int .i64 X.bt, .int .i64 X.cd, .int .i64 X.ct, .int .i64 X.dd, .int .i64 X.dt, .int .i64 X.ey, .int .i64 X.bo]).setRow (w12.heap.size + 1) #[.int .i64 fd, .int .i64 ft]) (w12.heap.size + 1) 25 #[.int .i64 fd, .int .i64 ft]) := Lib.hid (Blk.setRow _ (Blk.setRow_far _ (by omega) Z1))
  replace HI := Lib.hid (Ints.step hbig HI.out)
  replace HR := Lib.hid (Blk.step hbig HR.out)
  replace HI2 := Lib.hid (Ints.step hbig HI2.out)
  replace HT := Lib.hid (Blk.step hbig HT.out)
  replace HI3 := Lib.hid (Ints.step hbig HI3.out)
  replace HT2 := Lib.hid (Blk.step hbig HT2.out)
  replace HIQ := Lib.hid (Ints.step hbig HIQ.out)
  replace HQ := Lib.hid (Blk.step hbig HQ.out)
  replace HU := Lib.hid (Blk.step hbig HU.out)
  replace HV := Lib.hid (Blk.step hbig HV.out)
  replace HP1 := Lib.hid (Blk.step hbig HP1.out)
  replace HP2 := Lib.hid (Blk.step hbig HP2.out)
  replace HP3 := Lib.hid (Blk.step hbig HP3.out)
  replace HP4 := Lib.hid (Blk.step hbig HP4.out)
  replace HIX := Lib.hid (Ints.step hbig HIX.out)
  replace HB := Lib.hid (Bel.step hbig HB.out)
  clear hbig Z0 Z1
  generalize ((((w12.alloc (.cells #[.int .i64 0, .int .i64 0, .string ⟨#[]⟩, .slice none 0 0, .int .i64 0, .int .i64 0, .int .i64 0, .int .i64 0, .int .i64 0, .int .i64 0, .int .i64 0, .int .i64 0, .int .i64 0, .int .i64 0, .int .i64 0, .int .i64 0, .int .i64 0] 32)).alloc (.cells #[.int .i64 0, .int .i64 0] 25)).setRow (w12.heap.size) #[.int .i64 X.ch.dg, .int .i64 X.ch.tn, .string X.ch.nm, .slice (some ⟨gx, 0, none⟩) X.ch.zs.length qx, .int .i64 X.ch.wd, .int .i64 X.ch.lf, .int .i64 X.ch.rt, .int .i64 X.ad, .int .i64 X.at_, .int .i64 X.bd, .int .i64 X.bt, .int .i64 X.cd, .int .i64 X.ct, .int .i64 X.dd, .int .i64 X.dt, .int .i64 X.ey, .int .i64 X.bo]).setRow (w12.heap.size + 1) #[.int .i64 fd, .int .i64 ft]) = V12 at HB HI HR HI2 HT HI3 HT2 HIQ HQ HU HV HP1 HP2 HP3 HP4 HIX HX HF ⊢
  go_wp2_with (first | (refine wpList_load_blkG 32 _ _ (Blk.step (zb0 HB) HX.out) Tryz.underlying32 (by kernel_rfl) rfl rfl (by rfl) ?_) | (refine wpList_load_blkG 25 _ _ (Blk.step (zb0 HB) HF.out) Tryz.underlying25 (by kernel_rfl) rfl rfl (by rfl) ?_))
  go_at_call 18; refine (WidestRange_I X (some ⟨gx, 0, none⟩) qx fd ft hXn hXm _ (by repeat (with_reducible first | exact HIX.out | assumption | refine Ints.drew ?_ | refine Ints.drewN _ ?_ | refine Ints.alloc _ ?_ | refine Ints.step (by assumption) ?_))).mono ?_; rintro e w13 ⟨A4, c4, rfl, hO13, hb13⟩; have hka := zba HB hb13; (try replace HI := yI hb13 hka HI); (try replace HR := yB hb13 hka HR); (try replace HI2 := yI hb13 hka HI2); (try replace HT := yB hb13 hka HT); (try replace HI3 := yI hb13 hka HI3); (try replace HT2 := yB hb13 hka HT2); (try replace HIQ := yI hb13 hka HIQ); (try replace HQ := yB hb13 hka HQ); (try replace HU := yB hb13 hka HU); (try replace HV := yB hb13 hka HV); (try replace HP1 := yB hb13 hka HP1); (try replace HP2 := yB hb13 hka HP2); (try replace HP3 := yB hb13 hka HP3); (try replace HP4 := yB hb13 hka HP4); (try replace HIX := yI hb13 hka HIX); (try replace HX := yB hb13 hka HX); (try replace HF := yB hb13 hka HF); replace HB := Lib.hid (Bel.step hb13 (Bel.step hka HB.out)); have hsz13 := hb13.size; have hsy13 := hka.size; (try simp only [World.size_alloc, World.size_drew, World.heap_drewN, World.size_setCell] at hsz13 hsy13); clear hka hb13
  clear hsz13 hsy13
  try generalize Value.agg #[.int .i64 X.ch.dg, .int .i64 X.ch.tn, .string X.ch.nm, .slice (some ⟨gx, 0, none⟩) X.ch.zs.length qx, .int .i64 X.ch.wd, .int .i64 X.ch.lf, .int .i64 X.ch.rt, .int .i64 X.ad, .int .i64 X.at_, .int .i64 X.bd, .int .i64 X.bt, .int .i64 X.cd, .int .i64 X.ct, .int .i64 X.dd, .int .i64 X.dt, .int .i64 X.ey, .int .i64 X.bo] = vv11
  have hwr := fun h => wr_ok (R := X) (hd := fd) (ht := ft) h
  have hlen : (wrV X fd ft).ch.zs.length ≤ 1048576 ∧ (wrV X fd ft).ch.nm.size ≤ 1048576 := by
    unfold wrV
    split
    · exact ⟨hXn, hXm⟩
    · exact ⟨Nat.zero_le _, Nat.zero_le _⟩
  obtain ⟨Z, hZ⟩ : ∃ Z, Z = wrV X fd ft := ⟨_, rfl⟩
  obtain ⟨kw, hkw⟩ : ∃ k, k = wrC X fd ft := ⟨_, rfl⟩
  rw [← hZ, ← hkw] at hwr
  rw [← hZ] at hlen hO13
  rw [← hZ, ← hkw]
  have HZE := Lib.hid (And.intro hZ hkw)
  have HWR := Lib.hid hwr
  clear hZ hkw hwr
  obtain ⟨hZn, hZm⟩ := hlen
  have HI4 := Lib.hid hO13.ints
  clear hO13
  go_upto_region 16 with (refine wpList_store_blk (cs := #[.int .i64 Z.ch.dg, .int .i64 Z.ch.tn, .string Z.ch.nm, .slice A4 Z.ch.zs.length c4, .int .i64 Z.ch.wd, .int .i64 Z.ch.lf, .int .i64 Z.ch.rt, .int .i64 Z.ad, .int .i64 Z.at_, .int .i64 Z.bd, .int .i64 Z.bt, .int .i64 Z.cd, .int .i64 Z.ct, .int .i64 Z.dd, .int .i64 Z.dt, .int .i64 Z.ey, .int .i64 Z.bo]) 32 _ _ _ (Blk.new _ _ _) (by kernel_rfl) rfl (by simp [Value.oneCell']) rfl rfl rfl rfl ?_)
  rw [World.setRow_alloc_new]
  have HW := Lib.hid (by have h := Blk.new w13 32 #[.int .i64 Z.ch.dg, .int .i64 Z.ch.tn, .string Z.ch.nm, .slice A4 Z.ch.zs.length c4, .int .i64 Z.ch.wd, .int .i64 Z.ch.lf, .int .i64 Z.ch.rt, .int .i64 Z.ad, .int .i64 Z.at_, .int .i64 Z.bd, .int .i64 Z.bt, .int .i64 Z.cd, .int .i64 Z.ct, .int .i64 Z.dd, .int .i64 Z.dt, .int .i64 Z.ey, .int .i64 Z.bo]; (try simp only [World.size_alloc] at h); exact h)
  replace HI := Lib.hid (Ints.alloc (.cells #[.int .i64 Z.ch.dg, .int .i64 Z.ch.tn, .string Z.ch.nm, .slice A4 Z.ch.zs.length c4, .int .i64 Z.ch.wd, .int .i64 Z.ch.lf, .int .i64 Z.ch.rt, .int .i64 Z.ad, .int .i64 Z.at_, .int .i64 Z.bd, .int .i64 Z.bt, .int .i64 Z.cd, .int .i64 Z.ct, .int .i64 Z.dd, .int .i64 Z.dt, .int .i64 Z.ey, .int .i64 Z.bo] 32) HI.out)
  replace HR := Lib.hid (Blk.alloc (.cells #[.int .i64 Z.ch.dg, .int .i64 Z.ch.tn, .string Z.ch.nm, .slice A4 Z.ch.zs.length c4, .int .i64 Z.ch.wd, .int .i64 Z.ch.lf, .int .i64 Z.ch.rt, .int .i64 Z.ad, .int .i64 Z.at_, .int .i64 Z.bd, .int .i64 Z.bt, .int .i64 Z.cd, .int .i64 Z.ct, .int .i64 Z.dd, .int .i64 Z.dt, .int .i64 Z.ey, .int .i64 Z.bo] 32) HR.out)
  replace HI2 := Lib.hid (Ints.alloc (.cells #[.int .i64 Z.ch.dg, .int .i64 Z.ch.tn, .string Z.ch.nm, .slice A4 Z.ch.zs.length c4, .int .i64 Z.ch.wd, .int .i64 Z.ch.lf, .int .i64 Z.ch.rt, .int .i64 Z.ad, .int .i64 Z.at_, .int .i64 Z.bd, .int .i64 Z.bt, .int .i64 Z.cd, .int .i64 Z.ct, .int .i64 Z.dd, .int .i64 Z.dt, .int .i64 Z.ey, .int .i64 Z.bo] 32) HI2.out)
  replace HT := Lib.hid (Blk.alloc (.cells #[.int .i64 Z.ch.dg, .int .i64 Z.ch.tn, .string Z.ch.nm, .slice A4 Z.ch.zs.length c4, .int .i64 Z.ch.wd, .int .i64 Z.ch.lf, .int .i64 Z.ch.rt, .int .i64 Z.ad, .int .i64 Z.at_, .int .i64 Z.bd, .int .i64 Z.bt, .int .i64 Z.cd, .int .i64 Z.ct, .int .i64 Z.dd, .int .i64 Z.dt, .int .i64 Z.ey, .int .i64 Z.bo] 32) HT.out)
  replace HI3 := Lib.hid (Ints.alloc (.cells #[.int .i64 Z.ch.dg, .int .i64 Z.ch.tn, .string Z.ch.nm, .slice A4 Z.ch.zs.length c4, .int .i64 Z.ch.wd, .int .i64 Z.ch.lf, .int .i64 Z.ch.rt, .int .i64 Z.ad, .int .i64 Z.at_, .int .i64 Z.bd, .int .i64 Z.bt, .int .i64 Z.cd, .int .i64 Z.ct, .int .i64 Z.dd, .int .i64 Z.dt, .int .i64 Z.ey, .int .i64 Z.bo] 32) HI3.out)
  replace HT2 := Lib.hid (Blk.alloc (.cells #[.int .i64 Z.ch.dg, .int .i64 Z.ch.tn, .string Z.ch.nm, .slice A4 Z.ch.zs.length c4, .int .i64 Z.ch.wd, .int .i64 Z.ch.lf, .int .i64 Z.ch.rt, .int .i64 Z.ad, .int .i64 Z.at_, .int .i64 Z.bd, .int .i64 Z.bt, .int .i64 Z.cd, .int .i64 Z.ct, .int .i64 Z.dd, .int .i64 Z.dt, .int .i64 Z.ey, .int .i64 Z.bo] 32) HT2.out)
  replace HIQ := Lib.hid (Ints.alloc (.cells #[.int .i64 Z.ch.dg, .int .i64 Z.ch.tn, .string Z.ch.nm, .slice A4 Z.ch.zs.length c4, .int .i64 Z.ch.wd, .int .i64 Z.ch.lf, .int .i64 Z.ch.rt, .int .i64 Z.ad, .int .i64 Z.at_, .int .i64 Z.bd, .int .i64 Z.bt, .int .i64 Z.cd, .int .i64 Z.ct, .int .i64 Z.dd, .int .i64 Z.dt, .int .i64 Z.ey, .int .i64 Z.bo] 32) HIQ.out)
  replace HQ := Lib.hid (Blk.alloc (.cells #[.int .i64 Z.ch.dg, .int .i64 Z.ch.tn, .string Z.ch.nm, .slice A4 Z.ch.zs.length c4, .int .i64 Z.ch.wd, .int .i64 Z.ch.lf, .int .i64 Z.ch.rt, .int .i64 Z.ad, .int .i64 Z.at_, .int .i64 Z.bd, .int .i64 Z.bt, .int .i64 Z.cd, .int .i64 Z.ct, .int .i64 Z.dd, .int .i64 Z.dt, .int .i64 Z.ey, .int .i64 Z.bo] 32) HQ.out)
  replace HU := Lib.hid (Blk.alloc (.cells #[.int .i64 Z.ch.dg, .int .i64 Z.ch.tn, .string Z.ch.nm, .slice A4 Z.ch.zs.length c4, .int .i64 Z.ch.wd, .int .i64 Z.ch.lf, .int .i64 Z.ch.rt, .int .i64 Z.ad, .int .i64 Z.at_, .int .i64 Z.bd, .int .i64 Z.bt, .int .i64 Z.cd, .int .i64 Z.ct, .int .i64 Z.dd, .int .i64 Z.dt, .int .i64 Z.ey, .int .i64 Z.bo] 32) HU.out)
  replace HV := Lib.hid (Blk.alloc (.cells #[.int .i64 Z.ch.dg, .int .i64 Z.ch.tn, .string Z.ch.nm, .slice A4 Z.ch.zs.length c4, .int .i64 Z.ch.wd, .int .i64 Z.ch.lf, .int .i64 Z.ch.rt, .int .i64 Z.ad, .int .i64 Z.at_, .int .i64 Z.bd, .int .i64 Z.bt, .int .i64 Z.cd, .int .i64 Z.ct, .int .i64 Z.dd, .int .i64 Z.dt, .int .i64 Z.ey, .int .i64 Z.bo] 32) HV.out)
  replace HP1 := Lib.hid (Blk.alloc (.cells #[.int .i64 Z.ch.dg, .int .i64 Z.ch.tn, .string Z.ch.nm, .slice A4 Z.ch.zs.length c4, .int .i64 Z.ch.wd, .int .i64 Z.ch.lf, .int .i64 Z.ch.rt, .int .i64 Z.ad, .int .i64 Z.at_, .int .i64 Z.bd, .int .i64 Z.bt, .int .i64 Z.cd, .int .i64 Z.ct, .int .i64 Z.dd, .int .i64 Z.dt, .int .i64 Z.ey, .int .i64 Z.bo] 32) HP1.out)
  replace HP2 := Lib.hid (Blk.alloc (.cells #[.int .i64 Z.ch.dg, .int .i64 Z.ch.tn, .string Z.ch.nm, .slice A4 Z.ch.zs.length c4, .int .i64 Z.ch.wd, .int .i64 Z.ch.lf, .int .i64 Z.ch.rt, .int .i64 Z.ad, .int .i64 Z.at_, .int .i64 Z.bd, .int .i64 Z.bt, .int .i64 Z.cd, .int .i64 Z.ct, .int .i64 Z.dd, .int .i64 Z.dt, .int .i64 Z.ey, .int .i64 Z.bo] 32) HP2.out)
  replace HP3 := Lib.hid (Blk.alloc (.cells #[.int .i64 Z.ch.dg, .int .i64 Z.ch.tn, .string Z.ch.nm, .slice A4 Z.ch.zs.length c4, .int .i64 Z.ch.wd, .int .i64 Z.ch.lf, .int .i64 Z.ch.rt, .int .i64 Z.ad, .int .i64 Z.at_, .int .i64 Z.bd, .int .i64 Z.bt, .int .i64 Z.cd, .int .i64 Z.ct, .int .i64 Z.dd, .int .i64 Z.dt, .int .i64 Z.ey, .int .i64 Z.bo] 32) HP3.out)
  replace HP4 := Lib.hid (Blk.alloc (.cells #[.int .i64 Z.ch.dg, .int .i64 Z.ch.tn, .string Z.ch.nm, .slice A4 Z.ch.zs.length c4, .int .i64 Z.ch.wd, .int .i64 Z.ch.lf, .int .i64 Z.ch.rt, .int .i64 Z.ad, .int .i64 Z.at_, .int .i64 Z.bd, .int .i64 Z.bt, .int .i64 Z.cd, .int .i64 Z.ct, .int .i64 Z.dd, .int .i64 Z.dt, .int .i64 Z.ey, .int .i64 Z.bo] 32) HP4.out)
  replace HIX := Lib.hid (Ints.alloc (.cells #[.int .i64 Z.ch.dg, .int .i64 Z.ch.tn, .string Z.ch.nm, .slice A4 Z.ch.zs.length c4, .int .i64 Z.ch.wd, .int .i64 Z.ch.lf, .int .i64 Z.ch.rt, .int .i64 Z.ad, .int .i64 Z.at_, .int .i64 Z.bd, .int .i64 Z.bt, .int .i64 Z.cd, .int .i64 Z.ct, .int .i64 Z.dd, .int .i64 Z.dt, .int .i64 Z.ey, .int .i64 Z.bo] 32) HIX.out)
  replace HX := Lib.hid (Blk.alloc (.cells #[.int .i64 Z.ch.dg, .int .i64 Z.ch.tn, .string Z.ch.nm, .slice A4 Z.ch.zs.length c4, .int .i64 Z.ch.wd, .int .i64 Z.ch.lf, .int .i64 Z.ch.rt, .int .i64 Z.ad, .int .i64 Z.at_, .int .i64 Z.bd, .int .i64 Z.bt, .int .i64 Z.cd, .int .i64 Z.ct, .int .i64 Z.dd, .int .i64 Z.dt, .int .i64 Z.ey, .int .i64 Z.bo] 32) HX.out)
  replace HF := Lib.hid (Blk.alloc (.cells #[.int .i64 Z.ch.dg, .int .i64 Z.ch.tn, .string Z.ch.nm, .slice A4 Z.ch.zs.length c4, .int .i64 Z.ch.wd, .int .i64 Z.ch.lf, .int .i64 Z.ch.rt, .int .i64 Z.ad, .int .i64 Z.at_, .int .i64 Z.bd, .int .i64 Z.bt, .int .i64 Z.cd, .int .i64 Z.ct, .int .i64 Z.dd, .int .i64 Z.dt, .int .i64 Z.ey, .int .i64 Z.bo] 32) HF.out)
  replace HI4 := Lib.hid (Ints.alloc (.cells #[.int .i64 Z.ch.dg, .int .i64 Z.ch.tn, .string Z.ch.nm, .slice A4 Z.ch.zs.length c4, .int .i64 Z.ch.wd, .int .i64 Z.ch.lf, .int .i64 Z.ch.rt, .int .i64 Z.ad, .int .i64 Z.at_, .int .i64 Z.bd, .int .i64 Z.bt, .int .i64 Z.cd, .int .i64 Z.ct, .int .i64 Z.dd, .int .i64 Z.dt, .int .i64 Z.ey, .int .i64 Z.bo] 32) HI4.out)
  replace HB := Lib.hid (Bel.alloc HB.out (.cells #[.int .i64 Z.ch.dg, .int .i64 Z.ch.tn, .string Z.ch.nm, .slice A4 Z.ch.zs.length c4, .int .i64 Z.ch.wd, .int .i64 Z.ch.lf, .int .i64 Z.ch.rt, .int .i64 Z.ad, .int .i64 Z.at_, .int .i64 Z.bd, .int .i64 Z.bt, .int .i64 Z.cd, .int .i64 Z.ct, .int .i64 Z.dd, .int .i64 Z.dt, .int .i64 Z.ey, .int .i64 Z.bo] 32))
  go_wp2_with (first | (refine wpList_load_blkG 32 _ _ (Blk.step (zb0 HB) HX.out) Tryz.underlying32 (by kernel_rfl) rfl rfl (by rfl) ?_) | (refine wpList_load_blkG 25 _ _ (Blk.step (zb0 HB) HF.out) Tryz.underlying25 (by kernel_rfl) rfl rfl (by rfl) ?_))
  go_at_call 19; refine (WidestRange_S X (some ⟨gx, 0, none⟩) qx fd ft hXn hXm _ (by repeat (with_reducible first | exact HIX.out | assumption | refine Ints.drew ?_ | refine Ints.drewN _ ?_ | refine Ints.alloc _ ?_ | refine Ints.step (by assumption) ?_))).mono ?_; rintro e w14 ⟨A5, c5, rfl, hO14, hb14⟩; have hka := zba HB hb14; (try replace HI := yI hb14 hka HI); (try replace HR := yB hb14 hka HR); (try replace HI2 := yI hb14 hka HI2); (try replace HT := yB hb14 hka HT); (try replace HI3 := yI hb14 hka HI3); (try replace HT2 := yB hb14 hka HT2); (try replace HIQ := yI hb14 hka HIQ); (try replace HQ := yB hb14 hka HQ); (try replace HU := yB hb14 hka HU); (try replace HV := yB hb14 hka HV); (try replace HP1 := yB hb14 hka HP1); (try replace HP2 := yB hb14 hka HP2); (try replace HP3 := yB hb14 hka HP3); (try replace HP4 := yB hb14 hka HP4); (try replace HIX := yI hb14 hka HIX); (try replace HX := yB hb14 hka HX); (try replace HF := yB hb14 hka HF); (try replace HI4 := yI hb14 hka HI4); (try replace HW := yB hb14 hka HW); replace HB := Lib.hid (Bel.step hb14 (Bel.step hka HB.out)); have hsz14 := hb14.size; have hsy14 := hka.size; (try simp only [World.size_alloc, World.size_drew, World.heap_drewN, World.size_setCell] at hsz14 hsy14); clear hka hb14
  clear hsz14 hsy14
  try generalize Value.agg #[.int .i64 X.ch.dg, .int .i64 X.ch.tn, .string X.ch.nm, .slice (some ⟨gx, 0, none⟩) X.ch.zs.length qx, .int .i64 X.ch.wd, .int .i64 X.ch.lf, .int .i64 X.ch.rt, .int .i64 X.ad, .int .i64 X.at_, .int .i64 X.bd, .int .i64 X.bt, .int .i64 X.cd, .int .i64 X.ct, .int .i64 X.dd, .int .i64 X.dt, .int .i64 X.ey, .int .i64 X.bo] = vv12
  try generalize Value.agg #[.int .i64 Z.ch.dg, .int .i64 Z.ch.tn, .string Z.ch.nm, .slice A4 Z.ch.zs.length c4, .int .i64 Z.ch.wd, .int .i64 Z.ch.lf, .int .i64 Z.ch.rt, .int .i64 Z.ad, .int .i64 Z.at_, .int .i64 Z.bd, .int .i64 Z.bt, .int .i64 Z.cd, .int .i64 Z.ct, .int .i64 Z.dd, .int .i64 Z.dt, .int .i64 Z.ey, .int .i64 Z.bo] = vv13
  rw [← HZE.out.1] at hO14
  rw [← HZE.out.1, ← HZE.out.2]
  clear HZE hXn hXm
  clear HX HF HIX
  have HI5 := Lib.hid hO14.ints
  clear hO14
  go_upto_region 17 with (refine wpList_store_blk (cs := #[.int .i64 Z.ch.dg, .int .i64 Z.ch.tn, .string Z.ch.nm, .slice A5 Z.ch.zs.length c5, .int .i64 Z.ch.wd, .int .i64 Z.ch.lf, .int .i64 Z.ch.rt, .int .i64 Z.ad, .int .i64 Z.at_, .int .i64 Z.bd, .int .i64 Z.bt, .int .i64 Z.cd, .int .i64 Z.ct, .int .i64 Z.dd, .int .i64 Z.dt, .int .i64 Z.ey, .int .i64 Z.bo]) 32 _ _ _ (Blk.new _ _ _) (by kernel_rfl) rfl (by simp [Value.oneCell']) rfl rfl rfl rfl ?_)
  rw [World.setRow_alloc_new]
  have HW2 := Lib.hid (by have h := Blk.new w14 32 #[.int .i64 Z.ch.dg, .int .i64 Z.ch.tn, .string Z.ch.nm, .slice A5 Z.ch.zs.length c5, .int .i64 Z.ch.wd, .int .i64 Z.ch.lf, .int .i64 Z.ch.rt, .int .i64 Z.ad, .int .i64 Z.at_, .int .i64 Z.bd, .int .i64 Z.bt, .int .i64 Z.cd, .int .i64 Z.ct, .int .i64 Z.dd, .int .i64 Z.dt, .int .i64 Z.ey, .int .i64 Z.bo]; (try simp only [World.size_alloc] at h); exact h)
  replace HI := Lib.hid (Ints.alloc (.cells #[.int .i64 Z.ch.dg, .int .i64 Z.ch.tn, .string Z.ch.nm, .slice A5 Z.ch.zs.length c5, .int .i64 Z.ch.wd, .int .i64 Z.ch.lf, .int .i64 Z.ch.rt, .int .i64 Z.ad, .int .i64 Z.at_, .int .i64 Z.bd, .int .i64 Z.bt, .int .i64 Z.cd, .int .i64 Z.ct, .int .i64 Z.dd, .int .i64 Z.dt, .int .i64 Z.ey, .int .i64 Z.bo] 32) HI.out)
  replace HR := Lib.hid (Blk.alloc (.cells #[.int .i64 Z.ch.dg, .int .i64 Z.ch.tn, .string Z.ch.nm, .slice A5 Z.ch.zs.length c5, .int .i64 Z.ch.wd, .int .i64 Z.ch.lf, .int .i64 Z.ch.rt, .int .i64 Z.ad, .int .i64 Z.at_, .int .i64 Z.bd, .int .i64 Z.bt, .int .i64 Z.cd, .int .i64 Z.ct, .int .i64 Z.dd, .int .i64 Z.dt, .int .i64 Z.ey, .int .i64 Z.bo] 32) HR.out)
  replace HI2 := Lib.hid (Ints.alloc (.cells #[.int .i64 Z.ch.dg, .int .i64 Z.ch.tn, .string Z.ch.nm, .slice A5 Z.ch.zs.length c5, .int .i64 Z.ch.wd, .int .i64 Z.ch.lf, .int .i64 Z.ch.rt, .int .i64 Z.ad, .int .i64 Z.at_, .int .i64 Z.bd, .int .i64 Z.bt, .int .i64 Z.cd, .int .i64 Z.ct, .int .i64 Z.dd, .int .i64 Z.dt, .int .i64 Z.ey, .int .i64 Z.bo] 32) HI2.out)
  replace HT := Lib.hid (Blk.alloc (.cells #[.int .i64 Z.ch.dg, .int .i64 Z.ch.tn, .string Z.ch.nm, .slice A5 Z.ch.zs.length c5, .int .i64 Z.ch.wd, .int .i64 Z.ch.lf, .int .i64 Z.ch.rt, .int .i64 Z.ad, .int .i64 Z.at_, .int .i64 Z.bd, .int .i64 Z.bt, .int .i64 Z.cd, .int .i64 Z.ct, .int .i64 Z.dd, .int .i64 Z.dt, .int .i64 Z.ey, .int .i64 Z.bo] 32) HT.out)
  replace HI3 := Lib.hid (Ints.alloc (.cells #[.int .i64 Z.ch.dg, .int .i64 Z.ch.tn, .string Z.ch.nm, .slice A5 Z.ch.zs.length c5, .int .i64 Z.ch.wd, .int .i64 Z.ch.lf, .int .i64 Z.ch.rt, .int .i64 Z.ad, .int .i64 Z.at_, .int .i64 Z.bd, .int .i64 Z.bt, .int .i64 Z.cd, .int .i64 Z.ct, .int .i64 Z.dd, .int .i64 Z.dt, .int .i64 Z.ey, .int .i64 Z.bo] 32) HI3.out)
  replace HT2 := Lib.hid (Blk.alloc (.cells #[.int .i64 Z.ch.dg, .int .i64 Z.ch.tn, .string Z.ch.nm, .slice A5 Z.ch.zs.length c5, .int .i64 Z.ch.wd, .int .i64 Z.ch.lf, .int .i64 Z.ch.rt, .int .i64 Z.ad, .int .i64 Z.at_, .int .i64 Z.bd, .int .i64 Z.bt, .int .i64 Z.cd, .int .i64 Z.ct, .int .i64 Z.dd, .int .i64 Z.dt, .int .i64 Z.ey, .int .i64 Z.bo] 32) HT2.out)
  replace HIQ := Lib.hid (Ints.alloc (.cells #[.int .i64 Z.ch.dg, .int .i64 Z.ch.tn, .string Z.ch.nm, .slice A5 Z.ch.zs.length c5, .int .i64 Z.ch.wd, .int .i64 Z.ch.lf, .int .i64 Z.ch.rt, .int .i64 Z.ad, .int .i64 Z.at_, .int .i64 Z.bd, .int .i64 Z.bt, .int .i64 Z.cd, .int .i64 Z.ct, .int .i64 Z.dd, .int .i64 Z.dt, .int .i64 Z.ey, .int .i64 Z.bo] 32) HIQ.out)
  replace HQ := Lib.hid (Blk.alloc (.cells #[.int .i64 Z.ch.dg, .int .i64 Z.ch.tn, .string Z.ch.nm, .slice A5 Z.ch.zs.length c5, .int .i64 Z.ch.wd, .int .i64 Z.ch.lf, .int .i64 Z.ch.rt, .int .i64 Z.ad, .int .i64 Z.at_, .int .i64 Z.bd, .int .i64 Z.bt, .int .i64 Z.cd, .int .i64 Z.ct, .int .i64 Z.dd, .int .i64 Z.dt, .int .i64 Z.ey, .int .i64 Z.bo] 32) HQ.out)
  replace HU := Lib.hid (Blk.alloc (.cells #[.int .i64 Z.ch.dg, .int .i64 Z.ch.tn, .string Z.ch.nm, .slice A5 Z.ch.zs.length c5, .int .i64 Z.ch.wd, .int .i64 Z.ch.lf, .int .i64 Z.ch.rt, .int .i64 Z.ad, .int .i64 Z.at_, .int .i64 Z.bd, .int .i64 Z.bt, .int .i64 Z.cd, .int .i64 Z.ct, .int .i64 Z.dd, .int .i64 Z.dt, .int .i64 Z.ey, .int .i64 Z.bo] 32) HU.out)
  replace HV := Lib.hid (Blk.alloc (.cells #[.int .i64 Z.ch.dg, .int .i64 Z.ch.tn, .string Z.ch.nm, .slice A5 Z.ch.zs.length c5, .int .i64 Z.ch.wd, .int .i64 Z.ch.lf, .int .i64 Z.ch.rt, .int .i64 Z.ad, .int .i64 Z.at_, .int .i64 Z.bd, .int .i64 Z.bt, .int .i64 Z.cd, .int .i64 Z.ct, .int .i64 Z.dd, .int .i64 Z.dt, .int .i64 Z.ey, .int .i64 Z.bo] 32) HV.out)
  replace HP1 := Lib.hid (Blk.alloc (.cells #[.int .i64 Z.ch.dg, .int .i64 Z.ch.tn, .string Z.ch.nm, .slice A5 Z.ch.zs.length c5, .int .i64 Z.ch.wd, .int .i64 Z.ch.lf, .int .i64 Z.ch.rt, .int .i64 Z.ad, .int .i64 Z.at_, .int .i64 Z.bd, .int .i64 Z.bt, .int .i64 Z.cd, .int .i64 Z.ct, .int .i64 Z.dd, .int .i64 Z.dt, .int .i64 Z.ey, .int .i64 Z.bo] 32) HP1.out)
  replace HP2 := Lib.hid (Blk.alloc (.cells #[.int .i64 Z.ch.dg, .int .i64 Z.ch.tn, .string Z.ch.nm, .slice A5 Z.ch.zs.length c5, .int .i64 Z.ch.wd, .int .i64 Z.ch.lf, .int .i64 Z.ch.rt, .int .i64 Z.ad, .int .i64 Z.at_, .int .i64 Z.bd, .int .i64 Z.bt, .int .i64 Z.cd, .int .i64 Z.ct, .int .i64 Z.dd, .int .i64 Z.dt, .int .i64 Z.ey, .int .i64 Z.bo] 32) HP2.out)
  replace HP3 := Lib.hid (Blk.alloc (.cells #[.int .i64 Z.ch.dg, .int .i64 Z.ch.tn, .string Z.ch.nm, .slice A5 Z.ch.zs.length c5, .int .i64 Z.ch.wd, .int .i64 Z.ch.lf, .int .i64 Z.ch.rt, .int .i64 Z.ad, .int .i64 Z.at_, .int .i64 Z.bd, .int .i64 Z.bt, .int .i64 Z.cd, .int .i64 Z.ct, .int .i64 Z.dd, .int .i64 Z.dt, .int .i64 Z.ey, .int .i64 Z.bo] 32) HP3.out)
  replace HP4 := Lib.hid (Blk.alloc (.cells #[.int .i64 Z.ch.dg, .int .i64 Z.ch.tn, .string Z.ch.nm, .slice A5 Z.ch.zs.length c5, .int .i64 Z.ch.wd, .int .i64 Z.ch.lf, .int .i64 Z.ch.rt, .int .i64 Z.ad, .int .i64 Z.at_, .int .i64 Z.bd, .int .i64 Z.bt, .int .i64 Z.cd, .int .i64 Z.ct, .int .i64 Z.dd, .int .i64 Z.dt, .int .i64 Z.ey, .int .i64 Z.bo] 32) HP4.out)
  replace HI4 := Lib.hid (Ints.alloc (.cells #[.int .i64 Z.ch.dg, .int .i64 Z.ch.tn, .string Z.ch.nm, .slice A5 Z.ch.zs.length c5, .int .i64 Z.ch.wd, .int .i64 Z.ch.lf, .int .i64 Z.ch.rt, .int .i64 Z.ad, .int .i64 Z.at_, .int .i64 Z.bd, .int .i64 Z.bt, .int .i64 Z.cd, .int .i64 Z.ct, .int .i64 Z.dd, .int .i64 Z.dt, .int .i64 Z.ey, .int .i64 Z.bo] 32) HI4.out)
  replace HW := Lib.hid (Blk.alloc (.cells #[.int .i64 Z.ch.dg, .int .i64 Z.ch.tn, .string Z.ch.nm, .slice A5 Z.ch.zs.length c5, .int .i64 Z.ch.wd, .int .i64 Z.ch.lf, .int .i64 Z.ch.rt, .int .i64 Z.ad, .int .i64 Z.at_, .int .i64 Z.bd, .int .i64 Z.bt, .int .i64 Z.cd, .int .i64 Z.ct, .int .i64 Z.dd, .int .i64 Z.dt, .int .i64 Z.ey, .int .i64 Z.bo] 32) HW.out)
  replace HI5 := Lib.hid (Ints.alloc (.cells #[.int .i64 Z.ch.dg, .int .i64 Z.ch.tn, .string Z.ch.nm, .slice A5 Z.ch.zs.length c5, .int .i64 Z.ch.wd, .int .i64 Z.ch.lf, .int .i64 Z.ch.rt, .int .i64 Z.ad, .int .i64 Z.at_, .int .i64 Z.bd, .int .i64 Z.bt, .int .i64 Z.cd, .int .i64 Z.ct, .int .i64 Z.dd, .int .i64 Z.dt, .int .i64 Z.ey, .int .i64 Z.bo] 32) HI5.out)
  replace HB := Lib.hid (Bel.alloc HB.out (.cells #[.int .i64 Z.ch.dg, .int .i64 Z.ch.tn, .string Z.ch.nm, .slice A5 Z.ch.zs.length c5, .int .i64 Z.ch.wd, .int .i64 Z.ch.lf, .int .i64 Z.ch.rt, .int .i64 Z.ad, .int .i64 Z.at_, .int .i64 Z.bd, .int .i64 Z.bt, .int .i64 Z.cd, .int .i64 Z.ct, .int .i64 Z.dd, .int .i64 Z.dt, .int .i64 Z.ey, .int .i64 Z.bo] 32))
  try generalize Value.agg #[.int .i64 Z.ch.dg, .int .i64 Z.ch.tn, .string Z.ch.nm, .slice A5 Z.ch.zs.length c5, .int .i64 Z.ch.wd, .int .i64 Z.ch.lf, .int .i64 Z.ch.rt, .int .i64 Z.ad, .int .i64 Z.at_, .int .i64 Z.bd, .int .i64 Z.bt, .int .i64 Z.cd, .int .i64 Z.ct, .int .i64 Z.dd, .int .i64 Z.dt, .int .i64 Z.ey, .int .i64 Z.bo] = vv14
  refine wp_region_held_drew (S := fun W => Blk W (w2.heap.size) 32 #[.int .i64 T.ch.dg, .int .i64 T.ch.tn, .string T.ch.nm, .slice A2 T.ch.zs.length c2, .int .i64 T.ch.wd, .int .i64 T.ch.lf, .int .i64 T.ch.rt, .int .i64 T.ad, .int .i64 T.at_, .int .i64 T.bd, .int .i64 T.bt, .int .i64 T.cd, .int .i64 T.ct, .int .i64 T.dd, .int .i64 T.dt, .int .i64 T.ey, .int .i64 T.bo] ∧ Blk W (w3.heap.size) 32 #[.int .i64 T.ch.dg, .int .i64 T.ch.tn, .string T.ch.nm, .slice A3 T.ch.zs.length c3, .int .i64 T.ch.wd, .int .i64 T.ch.lf, .int .i64 T.ch.rt, .int .i64 T.ad, .int .i64 T.at_, .int .i64 T.bd, .int .i64 T.bt, .int .i64 T.cd, .int .i64 T.ct, .int .i64 T.dd, .int .i64 T.dt, .int .i64 T.ey, .int .i64 T.bo] ∧ Blk W (w8.heap.size) 25 #[.int .i64 a0, .int .i64 a1] ∧ Blk W (w8.heap.size + 1) 25 #[.int .i64 a2, .int .i64 a3] ∧ Blk W (w9.heap.size) 25 #[.int .i64 a0, .int .i64 a1] ∧ Blk W (w9.heap.size + 1) 25 #[.int .i64 a2, .int .i64 a3] ∧ Blk W (w13.heap.size) 32 #[.int .i64 Z.ch.dg, .int .i64 Z.ch.tn, .string Z.ch.nm, .slice A4 Z.ch.zs.length c4, .int .i64 Z.ch.wd, .int .i64 Z.ch.lf, .int .i64 Z.ch.rt, .int .i64 Z.ad, .int .i64 Z.at_, .int .i64 Z.bd, .int .i64 Z.bt, .int .i64 Z.cd, .int .i64 Z.ct, .int .i64 Z.dd, .int .i64 Z.dt, .int .i64 Z.ey, .int .i64 Z.bo] ∧ Blk W (w14.heap.size) 32 #[.int .i64 Z.ch.dg, .int .i64 Z.ch.tn, .string Z.ch.nm, .slice A5 Z.ch.zs.length c5, .int .i64 Z.ch.wd, .int .i64 Z.ch.lf, .int .i64 Z.ch.rt, .int .i64 Z.ad, .int .i64 Z.at_, .int .i64 Z.bd, .int .i64 Z.bt, .int .i64 Z.cd, .int .i64 Z.ct, .int .i64 Z.dd, .int .i64 Z.dt, .int .i64 Z.ey, .int .i64 Z.bo] ∧ Blk W (w1.heap.size) 32 #[.int .i64 R.ch.dg, .int .i64 R.ch.tn, .string R.ch.nm, .slice (some ⟨g, 0, none⟩) R.ch.zs.length q, .int .i64 R.ch.wd, .int .i64 R.ch.lf, .int .i64 R.ch.rt, .int .i64 R.ad, .int .i64 R.at_, .int .i64 R.bd, .int .i64 R.bt, .int .i64 R.cd, .int .i64 R.ct, .int .i64 R.dd, .int .i64 R.dt, .int .i64 R.ey, .int .i64 R.bo]) (by kernel_rfl) (⟨HT.out.drew, HT2.out.drew, HP1.out.drew, HP2.out.drew, HP3.out.drew, HP4.out.drew, HW.out.drew, HW2.out.drew, HR.out.drew⟩) (fun hHeld => ?_)
  replace HI := Lib.hid HI.out.drew
  replace HR := Lib.hid HR.out.drew
  replace HI2 := Lib.hid HI2.out.drew
  replace HT := Lib.hid HT.out.drew
  replace HI3 := Lib.hid HI3.out.drew
  replace HT2 := Lib.hid HT2.out.drew
  replace HIQ := Lib.hid HIQ.out.drew
  replace HQ := Lib.hid HQ.out.drew
  replace HU := Lib.hid HU.out.drew
  replace HV := Lib.hid HV.out.drew
  replace HP1 := Lib.hid HP1.out.drew
  replace HP2 := Lib.hid HP2.out.drew
  replace HP3 := Lib.hid HP3.out.drew
  replace HP4 := Lib.hid HP4.out.drew
  replace HI4 := Lib.hid HI4.out.drew
  replace HW := Lib.hid HW.out.drew
  replace HI5 := Lib.hid HI5.out.drew
  replace HW2 := Lib.hid HW2.out.drew
  replace HB := Lib.hid (Below.drew HB.out)
  generalize (w14.alloc (.cells #[.int .i64 Z.ch.dg, .int .i64 Z.ch.tn, .string Z.ch.nm, .slice A5 Z.ch.zs.length c5, .int .i64 Z.ch.wd, .int .i64 Z.ch.lf, .int .i64 Z.ch.rt, .int .i64 Z.ad, .int .i64 Z.at_, .int .i64 Z.bd, .int .i64 Z.bt, .int .i64 Z.cd, .int .i64 Z.ct, .int .i64 Z.dd, .int .i64 Z.dt, .int .i64 Z.ey, .int .i64 Z.bo] 32)).drew = v17 at HI HR HI2 HT HI3 HT2 HIQ HQ HU HV HP1 HP2 HP3 HP4 HI4 HW HI5 HW2 HB hHeld ⊢
  refine wpAnyH_take (i := 0) (v := (.int .i64 kb)) rfl (by kernel_rfl) (by kernel_rfl) (by kernel_rfl) (fun _ _ _ h => h) (Or.inl ⟨by rfl, fun w _ => by simp [go_sem, execOp]⟩) hHeld ?_
  simp only [Act.put, List.getElem_toArray, List.getElem_cons_succ, List.getElem_cons_zero, List.setIfInBounds_toArray, List.set_cons_zero, List.set_cons_succ]
  refine wpAnyH_take (i := 1) (v := (.int .i64 kb)) rfl (by kernel_rfl) (by kernel_rfl) (by kernel_rfl) (fun _ _ _ h => h) (Or.inl ⟨by rfl, fun w _ => by simp [go_sem, execOp]⟩) hHeld ?_
  simp only [Act.put, List.getElem_toArray, List.getElem_cons_succ, List.getElem_cons_zero, List.setIfInBounds_toArray, List.set_cons_zero, List.set_cons_succ]
  refine wpAnyH_take (i := 2) (v := (.bool false)) rfl (by kernel_rfl) (by kernel_rfl) (by kernel_rfl) (fun _ _ _ h => h) (Or.inl ⟨by rfl, fun w _ => by simp [go_sem, execOp]⟩) hHeld ?_
  simp only [Act.put, List.getElem_toArray, List.getElem_cons_succ, List.getElem_cons_zero, List.setIfInBounds_toArray, List.set_cons_zero, List.set_cons_succ]
  refine wpAnyH_take (i := 3) (v := (.bool false)) rfl (by kernel_rfl) (by kernel_rfl) (by kernel_rfl) (fun _ _ _ h => h) (Or.inl ⟨by rfl, fun w _ => by simp [go_sem, execOp]⟩) hHeld ?_
  simp only [Act.put, List.getElem_toArray, List.getElem_cons_succ, List.getElem_cons_zero, List.setIfInBounds_toArray, List.set_cons_zero, List.set_cons_succ]
  refine wpAnyH_take (i := 4) (v := .agg #[.int .i64 T.ch.dg, .int .i64 T.ch.tn, .string T.ch.nm, .slice A2 T.ch.zs.length c2, .int .i64 T.ch.wd, .int .i64 T.ch.lf, .int .i64 T.ch.rt, .int .i64 T.ad, .int .i64 T.at_, .int .i64 T.bd, .int .i64 T.bt, .int .i64 T.cd, .int .i64 T.ct, .int .i64 T.dd, .int .i64 T.dt, .int .i64 T.ey, .int .i64 T.bo]) rfl (by kernel_rfl) (by kernel_rfl) (by kernel_rfl) (fun _ _ _ h => h) (yieldsIf_load_blk 32 _ (w2.heap.size) (fun _ h => h.1) Tryz.underlying32 (by kernel_rfl) (by rfl) rfl rfl) hHeld ?_
  simp only [Act.put, List.getElem_toArray, List.getElem_cons_succ, List.getElem_cons_zero, List.setIfInBounds_toArray, List.set_cons_zero, List.set_cons_succ]
  refine wpAnyH_take (i := 5) (v := .agg #[.int .i64 T.ch.dg, .int .i64 T.ch.tn, .string T.ch.nm, .slice A3 T.ch.zs.length c3, .int .i64 T.ch.wd, .int .i64 T.ch.lf, .int .i64 T.ch.rt, .int .i64 T.ad, .int .i64 T.at_, .int .i64 T.bd, .int .i64 T.bt, .int .i64 T.cd, .int .i64 T.ct, .int .i64 T.dd, .int .i64 T.dt, .int .i64 T.ey, .int .i64 T.bo]) rfl (by kernel_rfl) (by kernel_rfl) (by kernel_rfl) (fun _ _ _ h => h) (yieldsIf_load_blk 32 _ (w3.heap.size) (fun _ h => h.2.1) Tryz.underlying32 (by kernel_rfl) (by rfl) rfl rfl) hHeld ?_
  simp only [Act.put, List.getElem_toArray, List.getElem_cons_succ, List.getElem_cons_zero, List.setIfInBounds_toArray, List.set_cons_zero, List.set_cons_succ]
  refine wpAnyH_ready (rs := [6]) (by kernel_rfl) (by simp) ?_
  refine AllReadyH.cons rfl (fun K hK => ?_) (AllReadyH.nil)
  go_simp
  go_at_call 20; refine (likeReleases_c T A2 A3 c2 c3 hTn _ (by repeat (with_reducible first | exact HI2.out | assumption | refine Ints.drew ?_ | refine Ints.drewN _ ?_ | refine Ints.alloc _ ?_ | refine Ints.step (by assumption) ?_)) (by repeat (with_reducible first | exact HI3.out | assumption | refine Ints.drew ?_ | refine Ints.drewN _ ?_ | refine Ints.alloc _ ?_ | refine Ints.step (by assumption) ?_))).mono ?_; rintro e w15 ⟨rfl, hb15⟩; have hka := zba HB hb15; (try replace HI := yI hb15 hka HI); (try replace HR := yB hb15 hka HR); (try replace HI2 := yI hb15 hka HI2); (try replace HT := yB hb15 hka HT); (try replace HI3 := yI hb15 hka HI3); (try replace HT2 := yB hb15 hka HT2); (try replace HIQ := yI hb15 hka HIQ); (try replace HQ := yB hb15 hka HQ); (try replace HU := yB hb15 hka HU); (try replace HV := yB hb15 hka HV); (try replace HP1 := yB hb15 hka HP1); (try replace HP2 := yB hb15 hka HP2); (try replace HP3 := yB hb15 hka HP3); (try replace HP4 := yB hb15 hka HP4); (try replace HI4 := yI hb15 hka HI4); (try replace HW := yB hb15 hka HW); (try replace HI5 := yI hb15 hka HI5); (try replace HW2 := yB hb15 hka HW2); replace HB := Lib.hid (Bel.step hb15 (Bel.step hka HB.out)); have hsz15 := hb15.size; have hsy15 := hka.size; (try simp only [World.size_alloc, World.size_drew, World.heap_drewN, World.size_setCell] at hsz15 hsy15); clear hka hb15
  clear hsz15 hsy15
  refine hK.out _ _ (⟨HT.out, HT2.out, HP1.out, HP2.out, HP3.out, HP4.out, HW.out, HW2.out, HR.out⟩) (fun hHeld => ?_)
  clear hK K
  try simp only [Act.put, List.setIfInBounds_toArray, List.set_cons_zero, List.set_cons_succ]
  try generalize Value.agg #[.int .i64 T.ch.dg, .int .i64 T.ch.tn, .string T.ch.nm, .slice A2 T.ch.zs.length c2, .int .i64 T.ch.wd, .int .i64 T.ch.lf, .int .i64 T.ch.rt, .int .i64 T.ad, .int .i64 T.at_, .int .i64 T.bd, .int .i64 T.bt, .int .i64 T.cd, .int .i64 T.ct, .int .i64 T.dd, .int .i64 T.dt, .int .i64 T.ey, .int .i64 T.bo] = vv15
  try generalize Value.agg #[.int .i64 T.ch.dg, .int .i64 T.ch.tn, .string T.ch.nm, .slice A3 T.ch.zs.length c3, .int .i64 T.ch.wd, .int .i64 T.ch.lf, .int .i64 T.ch.rt, .int .i64 T.ad, .int .i64 T.at_, .int .i64 T.bd, .int .i64 T.bt, .int .i64 T.cd, .int .i64 T.ct, .int .i64 T.dd, .int .i64 T.dt, .int .i64 T.ey, .int .i64 T.bo] = vv16
  refine wpAnyH_take (i := 7) (v := (.bool false)) rfl (by kernel_rfl) (by kernel_rfl) (by kernel_rfl) (fun _ _ _ h => h) (Or.inl ⟨by rfl, fun w _ => by simp [go_sem, execOp]⟩) hHeld ?_
  simp only [Act.put, List.getElem_toArray, List.getElem_cons_succ, List.getElem_cons_zero, List.setIfInBounds_toArray, List.set_cons_zero, List.set_cons_succ]
  refine wpAnyH_take (i := 8) (v := (.bool false)) rfl (by kernel_rfl) (by kernel_rfl) (by kernel_rfl) (fun _ _ _ h => h) (Or.inl ⟨by rfl, fun w _ => by simp [go_sem, execOp]⟩) hHeld ?_
  simp only [Act.put, List.getElem_toArray, List.getElem_cons_succ, List.getElem_cons_zero, List.setIfInBounds_toArray, List.set_cons_zero, List.set_cons_succ]
  refine wpAnyH_take (i := 9) (v := (.bool false)) rfl (by kernel_rfl) (by kernel_rfl) (by kernel_rfl) (fun _ _ _ h => h) (Or.inl ⟨by rfl, fun w _ => by simp [go_sem, execOp]⟩) hHeld ?_
  simp only [Act.put, List.getElem_toArray, List.getElem_cons_succ, List.getElem_cons_zero, List.setIfInBounds_toArray, List.set_cons_zero, List.set_cons_succ]
  refine wpAnyH_take (i := 10) (v := (.int .i64 ks)) rfl (by kernel_rfl) (by kernel_rfl) (by kernel_rfl) (fun _ _ _ h => h) (Or.inl ⟨by rfl, fun w _ => by simp [go_sem, execOp]⟩) hHeld ?_
  simp only [Act.put, List.getElem_toArray, List.getElem_cons_succ, List.getElem_cons_zero, List.setIfInBounds_toArray, List.set_cons_zero, List.set_cons_succ]
  refine wpAnyH_take (i := 11) (v := (.int .i64 ks)) rfl (by kernel_rfl) (by kernel_rfl) (by kernel_rfl) (fun _ _ _ h => h) (Or.inl ⟨by rfl, fun w _ => by simp [go_sem, execOp]⟩) hHeld ?_
  simp only [Act.put, List.getElem_toArray, List.getElem_cons_succ, List.getElem_cons_zero, List.setIfInBounds_toArray, List.set_cons_zero, List.set_cons_succ]
  refine wpAnyH_take (i := 12) (v := (.bool false)) rfl (by kernel_rfl) (by kernel_rfl) (by kernel_rfl) (fun _ _ _ h => h) (Or.inl ⟨by rfl, fun w _ => by simp [go_sem, execOp]⟩) hHeld ?_
  simp only [Act.put, List.getElem_toArray, List.getElem_cons_succ, List.getElem_cons_zero, List.setIfInBounds_toArray, List.set_cons_zero, List.set_cons_succ]
  refine wpAnyH_take (i := 13) (v := (.bool false)) rfl (by kernel_rfl) (by kernel_rfl) (by kernel_rfl) (fun _ _ _ h => h) (Or.inl ⟨by rfl, fun w _ => by simp [go_sem, execOp]⟩) hHeld ?_
  simp only [Act.put, List.getElem_toArray, List.getElem_cons_succ, List.getElem_cons_zero, List.setIfInBounds_toArray, List.set_cons_zero, List.set_cons_succ]
  refine wpAnyH_take (i := 14) (v := (.bool false)) rfl (by kernel_rfl) (by kernel_rfl) (by kernel_rfl) (fun _ _ _ h => h) (Or.inl ⟨by rfl, fun w _ => by simp [go_sem, execOp]⟩) hHeld ?_
  simp only [Act.put, List.getElem_toArray, List.getElem_cons_succ, List.getElem_cons_zero, List.setIfInBounds_toArray, List.set_cons_zero, List.set_cons_succ]
  refine wpAnyH_take (i := 15) (v := (.int .i64 sb)) rfl (by kernel_rfl) (by kernel_rfl) (by kernel_rfl) (fun _ _ _ h => h) (Or.inl ⟨by rfl, fun w _ => by simp [go_sem, execOp]⟩) hHeld ?_
  simp only [Act.put, List.getElem_toArray, List.getElem_cons_succ, List.getElem_cons_zero, List.setIfInBounds_toArray, List.set_cons_zero, List.set_cons_succ]
  refine wpAnyH_take (i := 16) (v := (.int .i64 sb)) rfl (by kernel_rfl) (by kernel_rfl) (by kernel_rfl) (fun _ _ _ h => h) (Or.inl ⟨by rfl, fun w _ => by simp [go_sem, execOp]⟩) hHeld ?_
  simp only [Act.put, List.getElem_toArray, List.getElem_cons_succ, List.getElem_cons_zero, List.setIfInBounds_toArray, List.set_cons_zero, List.set_cons_succ]
  refine wpAnyH_take (i := 17) (v := (.bool false)) rfl (by kernel_rfl) (by kernel_rfl) (by kernel_rfl) (fun _ _ _ h => h) (Or.inl ⟨by rfl, fun w _ => by simp [go_sem, execOp]⟩) hHeld ?_
  simp only [Act.put, List.getElem_toArray, List.getElem_cons_succ, List.getElem_cons_zero, List.setIfInBounds_toArray, List.set_cons_zero, List.set_cons_succ]
  refine wpAnyH_take (i := 18) (v := (.bool false)) rfl (by kernel_rfl) (by kernel_rfl) (by kernel_rfl) (fun _ _ _ h => h) (Or.inl ⟨by rfl, fun w _ => by simp [go_sem, execOp]⟩) hHeld ?_
  simp only [Act.put, List.getElem_toArray, List.getElem_cons_succ, List.getElem_cons_zero, List.setIfInBounds_toArray, List.set_cons_zero, List.set_cons_succ]
  refine wpAnyH_take (i := 19) (v := (.bool false)) rfl (by kernel_rfl) (by kernel_rfl) (by kernel_rfl) (fun _ _ _ h => h) (Or.inl ⟨by rfl, fun w _ => by simp [go_sem, execOp]⟩) hHeld ?_
  simp only [Act.put, List.getElem_toArray, List.getElem_cons_succ, List.getElem_cons_zero, List.setIfInBounds_toArray, List.set_cons_zero, List.set_cons_succ]
  refine wpAnyH_take (i := 20) (v := (.int .i64 ka)) rfl (by kernel_rfl) (by kernel_rfl) (by kernel_rfl) (fun _ _ _ h => h) (Or.inl ⟨by rfl, fun w _ => by simp [go_sem, execOp]⟩) hHeld ?_
  simp only [Act.put, List.getElem_toArray, List.getElem_cons_succ, List.getElem_cons_zero, List.setIfInBounds_toArray, List.set_cons_zero, List.set_cons_succ]
  refine wpAnyH_take (i := 21) (v := (.int .i64 ka)) rfl (by kernel_rfl) (by kernel_rfl) (by kernel_rfl) (fun _ _ _ h => h) (Or.inl ⟨by rfl, fun w _ => by simp [go_sem, execOp]⟩) hHeld ?_
  simp only [Act.put, List.getElem_toArray, List.getElem_cons_succ, List.getElem_cons_zero, List.setIfInBounds_toArray, List.set_cons_zero, List.set_cons_succ]
  refine wpAnyH_take (i := 22) (v := (.bool false)) rfl (by kernel_rfl) (by kernel_rfl) (by kernel_rfl) (fun _ _ _ h => h) (Or.inl ⟨by rfl, fun w _ => by simp [go_sem, execOp]⟩) hHeld ?_
  simp only [Act.put, List.getElem_toArray, List.getElem_cons_succ, List.getElem_cons_zero, List.setIfInBounds_toArray, List.set_cons_zero, List.set_cons_succ]
  refine wpAnyH_take (i := 23) (v := (.bool false)) rfl (by kernel_rfl) (by kernel_rfl) (by kernel_rfl) (fun _ _ _ h => h) (Or.inl ⟨by rfl, fun w _ => by simp [go_sem, execOp]⟩) hHeld ?_
  simp only [Act.put, List.getElem_toArray, List.getElem_cons_succ, List.getElem_cons_zero, List.setIfInBounds_toArray, List.set_cons_zero, List.set_cons_succ]
  refine wpAnyH_take (i := 24) (v := (.bool false)) rfl (by kernel_rfl) (by kernel_rfl) (by kernel_rfl) (fun _ _ _ h => h) (Or.inl ⟨by rfl, fun w _ => by simp [go_sem, execOp]⟩) hHeld ?_
  simp only [Act.put, List.getElem_toArray, List.getElem_cons_succ, List.getElem_cons_zero, List.setIfInBounds_toArray, List.set_cons_zero, List.set_cons_succ]
  refine wpAnyH_take (i := 25) (v := .agg #[.int .i64 a0, .int .i64 a1]) rfl (by kernel_rfl) (by kernel_rfl) (by kernel_rfl) (fun _ _ _ h => h) (yieldsIf_load_blk 25 _ (w8.heap.size) (fun _ h => h.2.2.1) Tryz.underlying25 (by kernel_rfl) (by rfl) rfl rfl) hHeld ?_
  simp only [Act.put, List.getElem_toArray, List.getElem_cons_succ, List.getElem_cons_zero, List.setIfInBounds_toArray, List.set_cons_zero, List.set_cons_succ]
  refine wpAnyH_take (i := 26) (v := .agg #[.int .i64 a0, .int .i64 a1]) rfl (by kernel_rfl) (by kernel_rfl) (by kernel_rfl) (fun _ _ _ h => h) (yieldsIf_load_blk 25 _ (w9.heap.size) (fun _ h => h.2.2.2.2.1) Tryz.underlying25 (by kernel_rfl) (by rfl) rfl rfl) hHeld ?_
  simp only [Act.put, List.getElem_toArray, List.getElem_cons_succ, List.getElem_cons_zero, List.setIfInBounds_toArray, List.set_cons_zero, List.set_cons_succ]
  refine wpAnyH_take (i := 27) (v := (.bool false)) rfl (by kernel_rfl) (by kernel_rfl) (by kernel_rfl) (fun _ _ _ h => h) (Or.inl ⟨by rfl, fun w _ => by simp [go_sem, execOp]⟩) hHeld ?_
  simp only [Act.put, List.getElem_toArray, List.getElem_cons_succ, List.getElem_cons_zero, List.setIfInBounds_toArray, List.set_cons_zero, List.set_cons_succ]
  refine wpAnyH_take (i := 28) (v := (.bool false)) rfl (by kernel_rfl) (by kernel_rfl) (by kernel_rfl) (fun _ _ _ h => h) (Or.inl ⟨by rfl, fun w _ => by simp [go_sem, execOp]⟩) hHeld ?_
  simp only [Act.put, List.getElem_toArray, List.getElem_cons_succ, List.getElem_cons_zero, List.setIfInBounds_toArray, List.set_cons_zero, List.set_cons_succ]
  refine wpAnyH_take (i := 29) (v := (.bool false)) rfl (by kernel_rfl) (by kernel_rfl) (by kernel_rfl) (fun _ _ _ h => h) (Or.inl ⟨by rfl, fun w _ => by simp [go_sem, execOp]⟩) hHeld ?_
  simp only [Act.put, List.getElem_toArray, List.getElem_cons_succ, List.getElem_cons_zero, List.setIfInBounds_toArray, List.set_cons_zero, List.set_cons_succ]
  refine wpAnyH_take (i := 30) (v := .agg #[.int .i64 a2, .int .i64 a3]) rfl (by kernel_rfl) (by kernel_rfl) (by kernel_rfl) (fun _ _ _ h => h) (yieldsIf_load_blk 25 _ (w8.heap.size + 1) (fun _ h => h.2.2.2.1) Tryz.underlying25 (by kernel_rfl) (by rfl) rfl rfl) hHeld ?_
  simp only [Act.put, List.getElem_toArray, List.getElem_cons_succ, List.getElem_cons_zero, List.setIfInBounds_toArray, List.set_cons_zero, List.set_cons_succ]
  refine wpAnyH_take (i := 31) (v := .agg #[.int .i64 a2, .int .i64 a3]) rfl (by kernel_rfl) (by kernel_rfl) (by kernel_rfl) (fun _ _ _ h => h) (yieldsIf_load_blk 25 _ (w9.heap.size + 1) (fun _ h => h.2.2.2.2.2.1) Tryz.underlying25 (by kernel_rfl) (by rfl) rfl rfl) hHeld ?_
  simp only [Act.put, List.getElem_toArray, List.getElem_cons_succ, List.getElem_cons_zero, List.setIfInBounds_toArray, List.set_cons_zero, List.set_cons_succ]
  refine wpAnyH_take (i := 32) (v := (.bool false)) rfl (by kernel_rfl) (by kernel_rfl) (by kernel_rfl) (fun _ _ _ h => h) (Or.inl ⟨by rfl, fun w _ => by simp [go_sem, execOp]⟩) hHeld ?_
  simp only [Act.put, List.getElem_toArray, List.getElem_cons_succ, List.getElem_cons_zero, List.setIfInBounds_toArray, List.set_cons_zero, List.set_cons_succ]
  refine wpAnyH_take (i := 33) (v := (.bool false)) rfl (by kernel_rfl) (by kernel_rfl) (by kernel_rfl) (fun _ _ _ h => h) (Or.inl ⟨by rfl, fun w _ => by simp [go_sem, execOp]⟩) hHeld ?_
  simp only [Act.put, List.getElem_toArray, List.getElem_cons_succ, List.getElem_cons_zero, List.setIfInBounds_toArray, List.set_cons_zero, List.set_cons_succ]
  refine wpAnyH_take (i := 34) (v := (.bool false)) rfl (by kernel_rfl) (by kernel_rfl) (by kernel_rfl) (fun _ _ _ h => h) (Or.inl ⟨by rfl, fun w _ => by simp [go_sem, execOp]⟩) hHeld ?_
  simp only [Act.put, List.getElem_toArray, List.getElem_cons_succ, List.getElem_cons_zero, List.setIfInBounds_toArray, List.set_cons_zero, List.set_cons_succ]
  refine wpAnyH_take (i := 35) (v := (.int .i64 kc)) rfl (by kernel_rfl) (by kernel_rfl) (by kernel_rfl) (fun _ _ _ h => h) (Or.inl ⟨by rfl, fun w _ => by simp [go_sem, execOp]⟩) hHeld ?_
  simp only [Act.put, List.getElem_toArray, List.getElem_cons_succ, List.getElem_cons_zero, List.setIfInBounds_toArray, List.set_cons_zero, List.set_cons_succ]
  refine wpAnyH_take (i := 36) (v := (.int .i64 kc)) rfl (by kernel_rfl) (by kernel_rfl) (by kernel_rfl) (fun _ _ _ h => h) (Or.inl ⟨by rfl, fun w _ => by simp [go_sem, execOp]⟩) hHeld ?_
  simp only [Act.put, List.getElem_toArray, List.getElem_cons_succ, List.getElem_cons_zero, List.setIfInBounds_toArray, List.set_cons_zero, List.set_cons_succ]
  refine wpAnyH_take (i := 37) (v := (.bool false)) rfl (by kernel_rfl) (by kernel_rfl) (by kernel_rfl) (fun _ _ _ h => h) (Or.inl ⟨by rfl, fun w _ => by simp [go_sem, execOp]⟩) hHeld ?_
  simp only [Act.put, List.getElem_toArray, List.getElem_cons_succ, List.getElem_cons_zero, List.setIfInBounds_toArray, List.set_cons_zero, List.set_cons_succ]
  refine wpAnyH_take (i := 38) (v := (.bool false)) rfl (by kernel_rfl) (by kernel_rfl) (by kernel_rfl) (fun _ _ _ h => h) (Or.inl ⟨by rfl, fun w _ => by simp [go_sem, execOp]⟩) hHeld ?_
  simp only [Act.put, List.getElem_toArray, List.getElem_cons_succ, List.getElem_cons_zero, List.setIfInBounds_toArray, List.set_cons_zero, List.set_cons_succ]
  refine wpAnyH_take (i := 39) (v := (.bool false)) rfl (by kernel_rfl) (by kernel_rfl) (by kernel_rfl) (fun _ _ _ h => h) (Or.inl ⟨by rfl, fun w _ => by simp [go_sem, execOp]⟩) hHeld ?_
  simp only [Act.put, List.getElem_toArray, List.getElem_cons_succ, List.getElem_cons_zero, List.setIfInBounds_toArray, List.set_cons_zero, List.set_cons_succ]
  refine wpAnyH_take (i := 40) (v := (.bool ok)) rfl (by kernel_rfl) (by kernel_rfl) (by kernel_rfl) (fun _ _ _ h => h) (Or.inl ⟨by rfl, fun w _ => by simp [go_sem, execOp]⟩) hHeld ?_
  simp only [Act.put, List.getElem_toArray, List.getElem_cons_succ, List.getElem_cons_zero, List.setIfInBounds_toArray, List.set_cons_zero, List.set_cons_succ]
  refine wpAnyH_take (i := 41) (v := (.bool ok)) rfl (by kernel_rfl) (by kernel_rfl) (by kernel_rfl) (fun _ _ _ h => h) (Or.inl ⟨by rfl, fun w _ => by simp [go_sem, execOp]⟩) hHeld ?_
  simp only [Act.put, List.getElem_toArray, List.getElem_cons_succ, List.getElem_cons_zero, List.setIfInBounds_toArray, List.set_cons_zero, List.set_cons_succ]
  refine wpAnyH_take (i := 42) (v := (.bool false)) rfl (by kernel_rfl) (by kernel_rfl) (by kernel_rfl) (fun _ _ _ h => h) (Or.inl ⟨by rfl, fun w _ => by simp [go_sem, execOp]⟩) hHeld ?_
  simp only [Act.put, List.getElem_toArray, List.getElem_cons_succ, List.getElem_cons_zero, List.setIfInBounds_toArray, List.set_cons_zero, List.set_cons_succ]
  refine wpAnyH_take (i := 43) (v := (.bool false)) rfl (by kernel_rfl) (by kernel_rfl) (by kernel_rfl) (fun _ _ _ h => h) (Or.inl ⟨by rfl, fun w _ => by simp [go_sem, execOp]⟩) hHeld ?_
  simp only [Act.put, List.getElem_toArray, List.getElem_cons_succ, List.getElem_cons_zero, List.setIfInBounds_toArray, List.set_cons_zero, List.set_cons_succ]
  refine wpAnyH_take (i := 44) (v := (.bool false)) rfl (by kernel_rfl) (by kernel_rfl) (by kernel_rfl) (fun _ _ _ h => h) (Or.inl ⟨by rfl, fun w _ => by simp [go_sem, execOp]⟩) hHeld ?_
  simp only [Act.put, List.getElem_toArray, List.getElem_cons_succ, List.getElem_cons_zero, List.setIfInBounds_toArray, List.set_cons_zero, List.set_cons_succ]
  refine wpAnyH_take (i := 45) (v := (.int .i64 kw)) rfl (by kernel_rfl) (by kernel_rfl) (by kernel_rfl) (fun _ _ _ h => h) (Or.inl ⟨by rfl, fun w _ => by simp [go_sem, execOp]⟩) hHeld ?_
  simp only [Act.put, List.getElem_toArray, List.getElem_cons_succ, List.getElem_cons_zero, List.setIfInBounds_toArray, List.set_cons_zero, List.set_cons_succ]
  refine wpAnyH_take (i := 46) (v := (.int .i64 kw)) rfl (by kernel_rfl) (by kernel_rfl) (by kernel_rfl) (fun _ _ _ h => h) (Or.inl ⟨by rfl, fun w _ => by simp [go_sem, execOp]⟩) hHeld ?_
  simp only [Act.put, List.getElem_toArray, List.getElem_cons_succ, List.getElem_cons_zero, List.setIfInBounds_toArray, List.set_cons_zero, List.set_cons_succ]
  refine wpAnyH_take (i := 47) (v := (.bool false)) rfl (by kernel_rfl) (by kernel_rfl) (by kernel_rfl) (fun _ _ _ h => h) (Or.inl ⟨by rfl, fun w _ => by simp [go_sem, execOp]⟩) hHeld ?_
  simp only [Act.put, List.getElem_toArray, List.getElem_cons_succ, List.getElem_cons_zero, List.setIfInBounds_toArray, List.set_cons_zero, List.set_cons_succ]
  refine wpAnyH_take (i := 48) (v := (.bool false)) rfl (by kernel_rfl) (by kernel_rfl) (by kernel_rfl) (fun _ _ _ h => h) (Or.inl ⟨by rfl, fun w _ => by simp [go_sem, execOp]⟩) hHeld ?_
  simp only [Act.put, List.getElem_toArray, List.getElem_cons_succ, List.getElem_cons_zero, List.setIfInBounds_toArray, List.set_cons_zero, List.set_cons_succ]
  refine wpAnyH_take (i := 49) (v := (.bool false)) rfl (by kernel_rfl) (by kernel_rfl) (by kernel_rfl) (fun _ _ _ h => h) (Or.inl ⟨by rfl, fun w _ => by simp [go_sem, execOp]⟩) hHeld ?_
  simp only [Act.put, List.getElem_toArray, List.getElem_cons_succ, List.getElem_cons_zero, List.setIfInBounds_toArray, List.set_cons_zero, List.set_cons_succ]
  refine wpAnyH_take (i := 50) (v := .agg #[.int .i64 Z.ch.dg, .int .i64 Z.ch.tn, .string Z.ch.nm, .slice A4 Z.ch.zs.length c4, .int .i64 Z.ch.wd, .int .i64 Z.ch.lf, .int .i64 Z.ch.rt, .int .i64 Z.ad, .int .i64 Z.at_, .int .i64 Z.bd, .int .i64 Z.bt, .int .i64 Z.cd, .int .i64 Z.ct, .int .i64 Z.dd, .int .i64 Z.dt, .int .i64 Z.ey, .int .i64 Z.bo]) rfl (by kernel_rfl) (by kernel_rfl) (by kernel_rfl) (fun _ _ _ h => h) (yieldsIf_load_blk 32 _ (w13.heap.size) (fun _ h => h.2.2.2.2.2.2.1) Tryz.underlying32 (by kernel_rfl) (by rfl) rfl rfl) hHeld ?_
  simp only [Act.put, List.getElem_toArray, List.getElem_cons_succ, List.getElem_cons_zero, List.setIfInBounds_toArray, List.set_cons_zero, List.set_cons_succ]
  refine wpAnyH_take (i := 51) (v := .agg #[.int .i64 Z.ch.dg, .int .i64 Z.ch.tn, .string Z.ch.nm, .slice A5 Z.ch.zs.length c5, .int .i64 Z.ch.wd, .int .i64 Z.ch.lf, .int .i64 Z.ch.rt, .int .i64 Z.ad, .int .i64 Z.at_, .int .i64 Z.bd, .int .i64 Z.bt, .int .i64 Z.cd, .int .i64 Z.ct, .int .i64 Z.dd, .int .i64 Z.dt, .int .i64 Z.ey, .int .i64 Z.bo]) rfl (by kernel_rfl) (by kernel_rfl) (by kernel_rfl) (fun _ _ _ h => h) (yieldsIf_load_blk 32 _ (w14.heap.size) (fun _ h => h.2.2.2.2.2.2.2.1) Tryz.underlying32 (by kernel_rfl) (by rfl) rfl rfl) hHeld ?_
  simp only [Act.put, List.getElem_toArray, List.getElem_cons_succ, List.getElem_cons_zero, List.setIfInBounds_toArray, List.set_cons_zero, List.set_cons_succ]
  refine wpAnyH_ready (rs := [52]) (by kernel_rfl) (by simp) ?_
  refine AllReadyH.cons rfl (fun K hK => ?_) (AllReadyH.nil)
  go_simp
  go_at_call 20; refine (likeReleases_c Z A4 A5 c4 c5 hZn _ (by repeat (with_reducible first | exact HI4.out | assumption | refine Ints.drew ?_ | refine Ints.drewN _ ?_ | refine Ints.alloc _ ?_ | refine Ints.step (by assumption) ?_)) (by repeat (with_reducible first | exact HI5.out | assumption | refine Ints.drew ?_ | refine Ints.drewN _ ?_ | refine Ints.alloc _ ?_ | refine Ints.step (by assumption) ?_))).mono ?_; rintro e w16 ⟨rfl, hb16⟩; have hka := zba HB hb16; (try replace HI := yI hb16 hka HI); (try replace HR := yB hb16 hka HR); (try replace HI2 := yI hb16 hka HI2); (try replace HT := yB hb16 hka HT); (try replace HI3 := yI hb16 hka HI3); (try replace HT2 := yB hb16 hka HT2); (try replace HIQ := yI hb16 hka HIQ); (try replace HQ := yB hb16 hka HQ); (try replace HU := yB hb16 hka HU); (try replace HV := yB hb16 hka HV); (try replace HP1 := yB hb16 hka HP1); (try replace HP2 := yB hb16 hka HP2); (try replace HP3 := yB hb16 hka HP3); (try replace HP4 := yB hb16 hka HP4); (try replace HI4 := yI hb16 hka HI4); (try replace HW := yB hb16 hka HW); (try replace HI5 := yI hb16 hka HI5); (try replace HW2 := yB hb16 hka HW2); replace HB := Lib.hid (Bel.step hb16 (Bel.step hka HB.out)); have hsz16 := hb16.size; have hsy16 := hka.size; (try simp only [World.size_alloc, World.size_drew, World.heap_drewN, World.size_setCell] at hsz16 hsy16); clear hka hb16
  clear hsz16 hsy16
  refine hK.out _ _ (⟨HT.out, HT2.out, HP1.out, HP2.out, HP3.out, HP4.out, HW.out, HW2.out, HR.out⟩) (fun hHeld => ?_)
  clear hK K
  try simp only [Act.put, List.setIfInBounds_toArray, List.set_cons_zero, List.set_cons_succ]
  try generalize Value.agg #[.int .i64 Z.ch.dg, .int .i64 Z.ch.tn, .string Z.ch.nm, .slice A4 Z.ch.zs.length c4, .int .i64 Z.ch.wd, .int .i64 Z.ch.lf, .int .i64 Z.ch.rt, .int .i64 Z.ad, .int .i64 Z.at_, .int .i64 Z.bd, .int .i64 Z.bt, .int .i64 Z.cd, .int .i64 Z.ct, .int .i64 Z.dd, .int .i64 Z.dt, .int .i64 Z.ey, .int .i64 Z.bo] = vv17
  try generalize Value.agg #[.int .i64 Z.ch.dg, .int .i64 Z.ch.tn, .string Z.ch.nm, .slice A5 Z.ch.zs.length c5, .int .i64 Z.ch.wd, .int .i64 Z.ch.lf, .int .i64 Z.ch.rt, .int .i64 Z.ad, .int .i64 Z.at_, .int .i64 Z.bd, .int .i64 Z.bt, .int .i64 Z.cd, .int .i64 Z.ct, .int .i64 Z.dd, .int .i64 Z.dt, .int .i64 Z.ey, .int .i64 Z.bo] = vv18
  refine wpAnyH_take (i := 53) (v := (.bool false)) rfl (by kernel_rfl) (by kernel_rfl) (by kernel_rfl) (fun _ _ _ h => h) (Or.inl ⟨by rfl, fun w _ => by simp [go_sem, execOp]⟩) hHeld ?_
  simp only [Act.put, List.getElem_toArray, List.getElem_cons_succ, List.getElem_cons_zero, List.setIfInBounds_toArray, List.set_cons_zero, List.set_cons_succ]
  refine wpAnyH_take (i := 54) (v := (.bool false)) rfl (by kernel_rfl) (by kernel_rfl) (by kernel_rfl) (fun _ _ _ h => h) (Or.inl ⟨by rfl, fun w _ => by simp [go_sem, execOp]⟩) hHeld ?_
  simp only [Act.put, List.getElem_toArray, List.getElem_cons_succ, List.getElem_cons_zero, List.setIfInBounds_toArray, List.set_cons_zero, List.set_cons_succ]
  refine wpAnyH_take (i := 55) (v := (.bool false)) rfl (by kernel_rfl) (by kernel_rfl) (by kernel_rfl) (fun _ _ _ h => h) (Or.inl ⟨by rfl, fun w _ => by simp [go_sem, execOp]⟩) hHeld ?_
  simp only [Act.put, List.getElem_toArray, List.getElem_cons_succ, List.getElem_cons_zero, List.setIfInBounds_toArray, List.set_cons_zero, List.set_cons_succ]
  refine wpAnyH_take (i := 56) (v := .agg #[.int .i64 R.ch.dg, .int .i64 R.ch.tn, .string R.ch.nm, .slice (some ⟨g, 0, none⟩) R.ch.zs.length q, .int .i64 R.ch.wd, .int .i64 R.ch.lf, .int .i64 R.ch.rt, .int .i64 R.ad, .int .i64 R.at_, .int .i64 R.bd, .int .i64 R.bt, .int .i64 R.cd, .int .i64 R.ct, .int .i64 R.dd, .int .i64 R.dt, .int .i64 R.ey, .int .i64 R.bo]) rfl (by kernel_rfl) (by kernel_rfl) (by kernel_rfl) (fun _ _ _ h => h) (yieldsIf_load_blk 32 _ (w1.heap.size) (fun _ h => h.2.2.2.2.2.2.2.2) Tryz.underlying32 (by kernel_rfl) (by rfl) rfl rfl) hHeld ?_
  simp only [Act.put, List.getElem_toArray, List.getElem_cons_succ, List.getElem_cons_zero, List.setIfInBounds_toArray, List.set_cons_zero, List.set_cons_succ]
  refine wpAnyH_take (i := 58) (v := .agg #[.int .i64 R.ch.dg, .int .i64 R.ch.tn, .string R.ch.nm, .slice (some ⟨g, 0, none⟩) R.ch.zs.length q, .int .i64 R.ch.wd, .int .i64 R.ch.lf, .int .i64 R.ch.rt, .int .i64 R.ad, .int .i64 R.at_, .int .i64 R.bd, .int .i64 R.bt, .int .i64 R.cd, .int .i64 R.ct, .int .i64 R.dd, .int .i64 R.dt, .int .i64 R.ey, .int .i64 R.bo]) rfl (by kernel_rfl) (by kernel_rfl) (by kernel_rfl) (fun _ _ _ h => h) (yieldsIf_load_blk 32 _ (w1.heap.size) (fun _ h => h.2.2.2.2.2.2.2.2) Tryz.underlying32 (by kernel_rfl) (by rfl) rfl rfl) hHeld ?_
  simp only [Act.put, List.getElem_toArray, List.getElem_cons_succ, List.getElem_cons_zero, List.setIfInBounds_toArray, List.set_cons_zero, List.set_cons_succ]
  refine wpAnyH_ready (rs := [57]) (by kernel_rfl) (by simp) ?_
  refine AllReadyH.cons rfl (fun K hK => ?_) (AllReadyH.nil)
  go_simp
  go_at_call 21; refine (IsRelease_I R (some ⟨g, 0, none⟩) q hn hm _ (by repeat (with_reducible first | exact HI.out | assumption | refine Ints.drew ?_ | refine Ints.drewN _ ?_ | refine Ints.alloc _ ?_ | refine Ints.step (by assumption) ?_))).mono ?_; rintro e w17 ⟨rfl, hb17⟩; have hka := zba HB hb17; (try replace HI := yI hb17 hka HI); (try replace HR := yB hb17 hka HR); (try replace HI2 := yI hb17 hka HI2); (try replace HT := yB hb17 hka HT); (try replace HI3 := yI hb17 hka HI3); (try replace HT2 := yB hb17 hka HT2); (try replace HIQ := yI hb17 hka HIQ); (try replace HQ := yB hb17 hka HQ); (try replace HU := yB hb17 hka HU); (try replace HV := yB hb17 hka HV); (try replace HP1 := yB hb17 hka HP1); (try replace HP2 := yB hb17 hka HP2); (try replace HP3 := yB hb17 hka HP3); (try replace HP4 := yB hb17 hka HP4); (try replace HI4 := yI hb17 hka HI4); (try replace HW := yB hb17 hka HW); (try replace HI5 := yI hb17 hka HI5); (try replace HW2 := yB hb17 hka HW2); replace HB := Lib.hid (Bel.step hb17 (Bel.step hka HB.out)); have hsz17 := hb17.size; have hsy17 := hka.size; (try simp only [World.size_alloc, World.size_drew, World.heap_drewN, World.size_setCell] at hsz17 hsy17); clear hka hb17
  clear hsz17 hsy17
  refine hK.out _ _ (⟨HT.out, HT2.out, HP1.out, HP2.out, HP3.out, HP4.out, HW.out, HW2.out, HR.out⟩) (fun hHeld => ?_)
  clear hK K
  try simp only [Act.put, List.setIfInBounds_toArray, List.set_cons_zero, List.set_cons_succ]
  refine wpAnyH_ready (rs := [59]) (by kernel_rfl) (by simp) ?_
  refine AllReadyH.cons rfl (fun K hK => ?_) (AllReadyH.nil)
  go_simp
  go_at_call 22; refine (IsRelease_S R (some ⟨g, 0, none⟩) q hn hm _ (by repeat (with_reducible first | exact HI.out | assumption | refine Ints.drew ?_ | refine Ints.drewN _ ?_ | refine Ints.alloc _ ?_ | refine Ints.step (by assumption) ?_))).mono ?_; rintro e w18 ⟨rfl, hb18⟩; have hka := zba HB hb18; (try replace HI := yI hb18 hka HI); (try replace HR := yB hb18 hka HR); (try replace HI2 := yI hb18 hka HI2); (try replace HT := yB hb18 hka HT); (try replace HI3 := yI hb18 hka HI3); (try replace HT2 := yB hb18 hka HT2); (try replace HIQ := yI hb18 hka HIQ); (try replace HQ := yB hb18 hka HQ); (try replace HU := yB hb18 hka HU); (try replace HV := yB hb18 hka HV); (try replace HP1 := yB hb18 hka HP1); (try replace HP2 := yB hb18 hka HP2); (try replace HP3 := yB hb18 hka HP3); (try replace HP4 := yB hb18 hka HP4); (try replace HI4 := yI hb18 hka HI4); (try replace HW := yB hb18 hka HW); (try replace HI5 := yI hb18 hka HI5); (try replace HW2 := yB hb18 hka HW2); replace HB := Lib.hid (Bel.step hb18 (Bel.step hka HB.out)); have hsz18 := hb18.size; have hsy18 := hka.size; (try simp only [World.size_alloc, World.size_drew, World.heap_drewN, World.size_setCell] at hsz18 hsy18); clear hka hb18
  clear hsz18 hsy18
  refine hK.out _ _ (⟨HT.out, HT2.out, HP1.out, HP2.out, HP3.out, HP4.out, HW.out, HW2.out, HR.out⟩) (fun hHeld => ?_)
  clear hK K
  try simp only [Act.put, List.setIfInBounds_toArray, List.set_cons_zero, List.set_cons_succ]
  try generalize Value.agg #[.int .i64 R.ch.dg, .int .i64 R.ch.tn, .string R.ch.nm, .slice (some ⟨g, 0, none⟩) R.ch.zs.length q, .int .i64 R.ch.wd, .int .i64 R.ch.lf, .int .i64 R.ch.rt, .int .i64 R.ad, .int .i64 R.at_, .int .i64 R.bd, .int .i64 R.bt, .int .i64 R.cd, .int .i64 R.ct, .int .i64 R.dd, .int .i64 R.dt, .int .i64 R.ey, .int .i64 R.bo] = vv19
  generalize okRe R = br
  refine wpAnyH_take (i := 60) (v := (.bool false)) rfl (by kernel_rfl) (by kernel_rfl) (by kernel_rfl) (fun _ _ _ h => h) (Or.inl ⟨by rfl, fun w _ => by simp [go_sem, execOp]⟩) hHeld ?_
  simp only [Act.put, List.getElem_toArray, List.getElem_cons_succ, List.getElem_cons_zero, List.setIfInBounds_toArray, List.set_cons_zero, List.set_cons_succ]
  refine wpAnyH_take (i := 61) (v := (.bool false)) rfl (by kernel_rfl) (by kernel_rfl) (by kernel_rfl) (fun _ _ _ h => h) (Or.inl ⟨by rfl, fun w _ => by simp [go_sem, execOp]⟩) hHeld ?_
  simp only [Act.put, List.getElem_toArray, List.getElem_cons_succ, List.getElem_cons_zero, List.setIfInBounds_toArray, List.set_cons_zero, List.set_cons_succ]
  refine wpAnyH_done (by kernel_rfl) ?_ _
  clear HT2 HP3 HP4 HW2 HI3 HI5
  by_cases hkc : kc = 0
  all_goals first
    | (have hkcb : (kc == 0) = false := by simpa using hkc
       go_upto_region 21 with (fail)
       obtain ⟨W, rfl⟩ : ∃ U : World, U = w18 := ⟨_, rfl⟩)
    | (obtain ⟨f1, f2, f3, f4, f5, f6, hok⟩ := HIC.out hkc
       subst hkc
       obtain ⟨b1, hb1_⟩ : ∃ b, b = (decide (fc Q.ad Q.at_ ud ut ≤ 0) && decide (fc ud ut Q.bd Q.bt ≤ 0)) := ⟨_, rfl⟩
       obtain ⟨b2, hb2_⟩ : ∃ b, b = (decide (fc Q.cd Q.ct vd vt ≤ 0) && decide (fc vd vt Q.dd Q.dt ≤ 0)) := ⟨_, rfl⟩
       rw [← hb1_, ← hb2_] at hok
       have HB1 := Lib.hid hb1_
       have HB2 := Lib.hid hb2_
       clear hb1_ hb2_
       subst hok
       have q7 : (w18).cell? ⟨w7.heap.size, 7, none⟩ = some (.int .i64 Q.ad) := by rw [HQ.out.cell]; rfl
       have q8 : (w18).cell? ⟨w7.heap.size, 8, none⟩ = some (.int .i64 Q.at_) := by rw [HQ.out.cell]; rfl
       have q9 : (w18).cell? ⟨w7.heap.size, 9, none⟩ = some (.int .i64 Q.bd) := by rw [HQ.out.cell]; rfl
       have q10 : (w18).cell? ⟨w7.heap.size, 10, none⟩ = some (.int .i64 Q.bt) := by rw [HQ.out.cell]; rfl
       have u0 : (w18).cell? ⟨w7.heap.size + 1, 0, none⟩ = some (.int .i64 ud) := by rw [HU.out.cell]; rfl
       have u1 : (w18).cell? ⟨w7.heap.size + 1, 1, none⟩ = some (.int .i64 ut) := by rw [HU.out.cell]; rfl
       go_wp2_with fail
       go_at_call 23; refine (between_c Q.ad Q.at_ ud ut Q.bd Q.bt f3 f1 f4 _).mono ?_; rintro e w19 ⟨rfl, hb19⟩; have hka := zba HB hb19; (try replace HI := yI hb19 hka HI); (try replace HR := yB hb19 hka HR); (try replace HI2 := yI hb19 hka HI2); (try replace HT := yB hb19 hka HT); (try replace HIQ := yI hb19 hka HIQ); (try replace HQ := yB hb19 hka HQ); (try replace HU := yB hb19 hka HU); (try replace HV := yB hb19 hka HV); (try replace HP1 := yB hb19 hka HP1); (try replace HP2 := yB hb19 hka HP2); (try replace HI4 := yI hb19 hka HI4); (try replace HW := yB hb19 hka HW); replace HB := Lib.hid (Bel.step hb19 (Bel.step hka HB.out)); have hsz19 := hb19.size; have hsy19 := hka.size; (try simp only [World.size_alloc, World.size_drew, World.heap_drewN, World.size_setCell] at hsz19 hsy19); clear hka hb19
       clear hsz19 hsy19
       clear q7 q8 q9 q10 u0 u1
       rw [← HB1.out]
       by_cases hb1t : b1 = true
       all_goals first
         | (have hF : b1 = false := by simpa using hb1t
            subst hF
            simp only [Bool.false_and]
            go_upto_region 21 with (fail)
            obtain ⟨W, rfl⟩ : ∃ U : World, U = w19 := ⟨_, rfl⟩)
         | (subst hb1t
            simp only [Bool.true_and]
            have q11 : (w19).cell? ⟨w7.heap.size, 11, none⟩ = some (.int .i64 Q.cd) := by rw [HQ.out.cell]; rfl
            have q12 : (w19).cell? ⟨w7.heap.size, 12, none⟩ = some (.int .i64 Q.ct) := by rw [HQ.out.cell]; rfl
            have q13 : (w19).cell? ⟨w7.heap.size, 13, none⟩ = some (.int .i64 Q.dd) := by rw [HQ.out.cell]; rfl
            have q14 : (w19).cell? ⟨w7.heap.size, 14, none⟩ = some (.int .i64 Q.dt) := by rw [HQ.out.cell]; rfl
            have u0 : (w19).cell? ⟨w7.heap.size + 1 + 1, 0, none⟩ = some (.int .i64 vd) := by rw [HV.out.cell]; rfl
            have u1 : (w19).cell? ⟨w7.heap.size + 1 + 1, 1, none⟩ = some (.int .i64 vt) := by rw [HV.out.cell]; rfl
            go_wp2_with fail
            go_at_call 23; refine (between_c Q.cd Q.ct vd vt Q.dd Q.dt f5 f2 f6 _).mono ?_; rintro e w20 ⟨rfl, hb20⟩; have hka := zba HB hb20; (try replace HI := yI hb20 hka HI); (try replace HR := yB hb20 hka HR); (try replace HI2 := yI hb20 hka HI2); (try replace HT := yB hb20 hka HT); (try replace HIQ := yI hb20 hka HIQ); (try replace HQ := yB hb20 hka HQ); (try replace HU := yB hb20 hka HU); (try replace HV := yB hb20 hka HV); (try replace HP1 := yB hb20 hka HP1); (try replace HP2 := yB hb20 hka HP2); (try replace HI4 := yI hb20 hka HI4); (try replace HW := yB hb20 hka HW); replace HB := Lib.hid (Bel.step hb20 (Bel.step hka HB.out)); have hsz20 := hb20.size; have hsy20 := hka.size; (try simp only [World.size_alloc, World.size_drew, World.heap_drewN, World.size_setCell] at hsz20 hsy20); clear hka hb20
            clear hsz20 hsy20
            clear q11 q12 q13 q14 u0 u1
            rw [← HB2.out]
            go_upto_region 21 with (fail)
            obtain ⟨W, rfl⟩ : ∃ U : World, U = w20 := ⟨_, rfl⟩))
  all_goals
    by_cases hkw : kw = 0
    all_goals first
      | (have hkwb : (kw == 0) = false := by simpa using hkw
         go_upto_region 23 with (fail))
      | (have hZo := HWR.out hkw
         subst hkw
         go_wp2_with (first | (refine wpList_load_blkG 32 _ _ (Blk.step (zb0 HB) HW.out) Tryz.underlying32 (by kernel_rfl) rfl rfl (by rfl) ?_))
         go_at_call 21; refine (IsRelease_I Z A4 c4 hZn hZm _ (by repeat (with_reducible first | exact HI4.out | assumption | refine Ints.drew ?_ | refine Ints.drewN _ ?_ | refine Ints.alloc _ ?_ | refine Ints.step (by assumption) ?_))).mono ?_; rintro e w22 ⟨rfl, hb22⟩; have hka := zba HB hb22; (try replace HR := yB hb22 hka HR); (try replace HT := yB hb22 hka HT); (try replace HQ := yB hb22 hka HQ); (try replace HU := yB hb22 hka HU); (try replace HV := yB hb22 hka HV); (try replace HP1 := yB hb22 hka HP1); (try replace HP2 := yB hb22 hka HP2); (try replace HI := yI hb22 hka HI); (try replace HI2 := yI hb22 hka HI2); (try replace HIQ := yI hb22 hka HIQ); replace HB := Lib.hid (Bel.step hb22 (Bel.step hka HB.out)); have hsz22 := hb22.size; have hsy22 := hka.size; (try simp only [World.size_alloc, World.size_drew, World.heap_drewN, World.size_setCell] at hsz22 hsy22); clear hka hb22
         clear hsz22 hsy22
         rw [hZo]
         go_upto_region 23 with (fail)
         obtain ⟨W, rfl⟩ : ∃ U : World, U = w22 := ⟨_, rfl⟩)
    all_goals
      clear HW HI4
      by_cases hka : ka = 0
      all_goals first
        | (have hkab : (ka == 0) = false := by simpa using hka
           go_upto_region 27 with (fail))
        | (obtain ⟨e0, e1, e2⟩ := HES.out hka
           have E1 := Lib.hid e1
           have E2 := Lib.hid e2
           clear e1 e2
           subst hka
           have q0 : (W).cell? ⟨w7.heap.size, 0, none⟩ = some (.int .i64 Q.ch.dg) := by rw [HQ.out.cell]; rfl
           have q1 : (W).cell? ⟨w7.heap.size, 1, none⟩ = some (.int .i64 Q.ch.tn) := by rw [HQ.out.cell]; rfl
           have q2 : (W).cell? ⟨w7.heap.size, 2, none⟩ = some (.string Q.ch.nm) := by rw [HQ.out.cell]; rfl
           have q3 : (W).cell? ⟨w7.heap.size, 3, none⟩ = some (.slice (some ⟨gq, 0, none⟩) Q.ch.zs.length qq) := by rw [HQ.out.cell]; rfl
           have q4 : (W).cell? ⟨w7.heap.size, 4, none⟩ = some (.int .i64 Q.ch.wd) := by rw [HQ.out.cell]; rfl
           have q5 : (W).cell? ⟨w7.heap.size, 5, none⟩ = some (.int .i64 Q.ch.lf) := by rw [HQ.out.cell]; rfl
           have q6 : (W).cell? ⟨w7.heap.size, 6, none⟩ = some (.int .i64 Q.ch.rt) := by rw [HQ.out.cell]; rfl
           have u0 : (W).cell? ⟨w7.heap.size + 1, 0, none⟩ = some (.int .i64 ud) := by rw [HU.out.cell]; rfl
           have u1 : (W).cell? ⟨w7.heap.size + 1, 1, none⟩ = some (.int .i64 ut) := by rw [HU.out.cell]; rfl
           have v0 : (W).cell? ⟨w7.heap.size + 1 + 1, 0, none⟩ = some (.int .i64 vd) := by rw [HV.out.cell]; rfl
           have v1 : (W).cell? ⟨w7.heap.size + 1 + 1, 1, none⟩ = some (.int .i64 vt) := by rw [HV.out.cell]; rfl
           go_wp2_with fail
           go_at_call 24; refine (ExactSpan_I Q.ch (some ⟨gq, 0, none⟩) qq ud ut vd vt hQn hQm _ (by repeat (with_reducible first | exact HIQ.out | assumption | refine Ints.drew ?_ | refine Ints.drewN _ ?_ | refine Ints.alloc _ ?_ | refine Ints.step (by assumption) ?_))).mono ?_; rintro e w24 ⟨rfl, hb24⟩; have hka := zba HB hb24; (try replace HR := yB hb24 hka HR); (try replace HT := yB hb24 hka HT); (try replace HP1 := yB hb24 hka HP1); (try replace HP2 := yB hb24 hka HP2); (try replace HI := yI hb24 hka HI); (try replace HI2 := yI hb24 hka HI2); replace HB := Lib.hid (Bel.step hb24 (Bel.step hka HB.out)); have hsz24 := hb24.size; have hsy24 := hka.size; (try simp only [World.size_alloc, World.size_drew, World.heap_drewN, World.size_setCell] at hsz24 hsy24); clear hka hb24
           clear hsz24 hsy24 q0 q1 q2 q3 q4 q5 q6 u0 u1 v0 v1
           rw [e0]
           obtain ⟨x0, hx0⟩ : ∃ k, k = es0 Q.ch ud ut vd vt := ⟨_, rfl⟩
           obtain ⟨x1, hx1⟩ : ∃ k, k = es1 Q.ch ud ut vd vt := ⟨_, rfl⟩
           obtain ⟨x2, hx2⟩ : ∃ k, k = es2 Q.ch ud ut vd vt := ⟨_, rfl⟩
           obtain ⟨x3, hx3⟩ : ∃ k, k = es3 Q.ch ud ut vd vt := ⟨_, rfl⟩
           rw [← hx0, ← hx1, ← hx2, ← hx3]
           replace E1 := Lib.hid (show btB a0 a1 x0 x1 a2 a3 = true by rw [hx0, hx1]; exact E1.out)
           replace E2 := Lib.hid (show btB a0 a1 x2 x3 a2 a3 = true by rw [hx2, hx3]; exact E2.out)
           clear e0 hx0 hx1 hx2 hx3
           have HX1 := Lib.hid (by have h := Blk.new w24 25 #[.int .i64 x0, .int .i64 x1]; (try simp only [World.size_alloc] at h); exact h)
           replace HR := Lib.hid (Blk.alloc (.cells #[.int .i64 x0, .int .i64 x1] 25) HR.out)
           replace HT := Lib.hid (Blk.alloc (.cells #[.int .i64 x0, .int .i64 x1] 25) HT.out)
           replace HP1 := Lib.hid (Blk.alloc (.cells #[.int .i64 x0, .int .i64 x1] 25) HP1.out)
           replace HP2 := Lib.hid (Blk.alloc (.cells #[.int .i64 x0, .int .i64 x1] 25) HP2.out)
           replace HI := Lib.hid (Ints.alloc (.cells #[.int .i64 x0, .int .i64 x1] 25) HI.out)
           replace HI2 := Lib.hid (Ints.alloc (.cells #[.int .i64 x0, .int .i64 x1] 25) HI2.out)
           replace HB := Lib.hid (Bel.alloc HB.out (.cells #[.int .i64 x0, .int .i64 x1] 25))
           have HX2 := Lib.hid (by have h := Blk.new (w24.alloc (.cells #[.int .i64 x0, .int .i64 x1] 25)) 25 #[.int .i64 x2, .int .i64 x3]; (try simp only [World.size_alloc] at h); exact h)
           replace HX1 := Lib.hid (Blk.alloc (.cells #[.int .i64 x2, .int .i64 x3] 25) HX1.out)
           replace HR := Lib.hid (Blk.alloc (.cells #[.int .i64 x2, .int .i64 x3] 25) HR.out)
           replace HT := Lib.hid (Blk.alloc (.cells #[.int .i64 x2, .int .i64 x3] 25) HT.out)
           replace HP1 := Lib.hid (Blk.alloc (.cells #[.int .i64 x2, .int .i64 x3] 25) HP1.out)
           replace HP2 := Lib.hid (Blk.alloc (.cells #[.int .i64 x2, .int .i64 x3] 25) HP2.out)
           replace HI := Lib.hid (Ints.alloc (.cells #[.int .i64 x2, .int .i64 x3] 25) HI.out)
           replace HI2 := Lib.hid (Ints.alloc (.cells #[.int .i64 x2, .int .i64 x3] 25) HI2.out)
           replace HB := Lib.hid (Bel.alloc HB.out (.cells #[.int .i64 x2, .int .i64 x3] 25))
           have p0 : ((w24.alloc (.cells #[.int .i64 x0, .int .i64 x1] 25)).alloc (.cells #[.int .i64 x2, .int .i64 x3] 25)).cell? ⟨w8.heap.size, 0, none⟩ = some (.int .i64 a0) := by rw [HP1.out.cell]; rfl
           have p1 : ((w24.alloc (.cells #[.int .i64 x0, .int .i64 x1] 25)).alloc (.cells #[.int .i64 x2, .int .i64 x3] 25)).cell? ⟨w8.heap.size, 1, none⟩ = some (.int .i64 a1) := by rw [HP1.out.cell]; rfl
           have q0 : ((w24.alloc (.cells #[.int .i64 x0, .int .i64 x1] 25)).alloc (.cells #[.int .i64 x2, .int .i64 x3] 25)).cell? ⟨w8.heap.size + 1, 0, none⟩ = some (.int .i64 a2) := by rw [HP2.out.cell]; rfl
           have q1 : ((w24.alloc (.cells #[.int .i64 x0, .int .i64 x1] 25)).alloc (.cells #[.int .i64 x2, .int .i64 x3] 25)).cell? ⟨w8.heap.size + 1, 1, none⟩ = some (.int .i64 a3) := by rw [HP2.out.cell]; rfl
           have y0 : ((w24.alloc (.cells #[.int .i64 x0, .int .i64 x1] 25)).alloc (.cells #[.int .i64 x2, .int .i64 x3] 25)).cell? ⟨w24.heap.size, 0, none⟩ = some (.int .i64 x0) := by rw [HX1.out.cell]; rfl
           have y1 : ((w24.alloc (.cells #[.int .i64 x0, .int .i64 x1] 25)).alloc (.cells #[.int .i64 x2, .int .i64 x3] 25)).cell? ⟨w24.heap.size, 1, none⟩ = some (.int .i64 x1) := by rw [HX1.out.cell]; rfl
           go_wp2_with fail
           go_at_call 23; refine (between_yes E1.out _).mono ?_; rintro e w25 ⟨rfl, hb25⟩; have hka := zba HB hb25; (try replace HR := yB hb25 hka HR); (try replace HT := yB hb25 hka HT); (try replace HP1 := yB hb25 hka HP1); (try replace HP2 := yB hb25 hka HP2); (try replace HX2 := yB hb25 hka HX2); (try replace HI := yI hb25 hka HI); (try replace HI2 := yI hb25 hka HI2); replace HB := Lib.hid (Bel.step hb25 (Bel.step hka HB.out)); have hsz25 := hb25.size; have hsy25 := hka.size; (try simp only [World.size_alloc, World.size_drew, World.heap_drewN, World.size_setCell] at hsz25 hsy25); clear hka hb25
           clear hsz25 hsy25 p0 p1 q0 q1 y0 y1
           have p0 : (w25).cell? ⟨w8.heap.size, 0, none⟩ = some (.int .i64 a0) := by rw [HP1.out.cell]; rfl
           have p1 : (w25).cell? ⟨w8.heap.size, 1, none⟩ = some (.int .i64 a1) := by rw [HP1.out.cell]; rfl
           have q0 : (w25).cell? ⟨w8.heap.size + 1, 0, none⟩ = some (.int .i64 a2) := by rw [HP2.out.cell]; rfl
           have q1 : (w25).cell? ⟨w8.heap.size + 1, 1, none⟩ = some (.int .i64 a3) := by rw [HP2.out.cell]; rfl
           have y0 : (w25).cell? ⟨w24.heap.size + 1, 0, none⟩ = some (.int .i64 x2) := by rw [HX2.out.cell]; rfl
           have y1 : (w25).cell? ⟨w24.heap.size + 1, 1, none⟩ = some (.int .i64 x3) := by rw [HX2.out.cell]; rfl
           go_wp2_with fail
           go_at_call 23; refine (between_yes E2.out _).mono ?_; rintro e w26 ⟨rfl, hb26⟩; have hka := zba HB hb26; (try replace HR := yB hb26 hka HR); (try replace HT := yB hb26 hka HT); (try replace HI := yI hb26 hka HI); (try replace HI2 := yI hb26 hka HI2); replace HB := Lib.hid (Bel.step hb26 (Bel.step hka HB.out)); have hsz26 := hb26.size; have hsy26 := hka.size; (try simp only [World.size_alloc, World.size_drew, World.heap_drewN, World.size_setCell] at hsz26 hsy26); clear hka hb26
           clear hsz26 hsy26 p0 p1 q0 q1 y0 y1
           go_upto_region 27 with (fail)
           obtain ⟨W, rfl⟩ : ∃ U : World, U = w26 := ⟨_, rfl⟩)
      all_goals
        by_cases hkb : kb = 0
        rotate_left
        · have hkbb : (kb == 0) = false := by simpa using hkb
          go_wp2
          go_ret
          exact ⟨rfl, HB.out⟩
        obtain ⟨s1, s2, s3, s4⟩ := HREL.out hkb
        subst hkb
        go_wp2_with (first | (refine wpList_load_blkG 32 _ _ (Blk.step (zb0 HB) HT.out) Tryz.underlying32 (by kernel_rfl) rfl rfl (by rfl) ?_))
        go_at_call 25; refine (IsKept_I T A2 c2 hTn hTm _ (by repeat (with_reducible first | exact HI2.out | assumption | refine Ints.drew ?_ | refine Ints.drewN _ ?_ | refine Ints.alloc _ ?_ | refine Ints.step (by assumption) ?_))).mono ?_; rintro e w29 ⟨rfl, hb29⟩; have hka := zba HB hb29; (try replace HR := yB hb29 hka HR); (try replace HT := yB hb29 hka HT); (try replace HI := yI hb29 hka HI); replace HB := Lib.hid (Bel.step hb29 (Bel.step hka HB.out)); have hsz29 := hb29.size; have hsy29 := hka.size; (try simp only [World.size_alloc, World.size_drew, World.heap_drewN, World.size_setCell] at hsz29 hsy29); clear hka hb29
        clear hsz29 hsy29
        rw [s1, s2]
        have r0 : (w29).cell? ⟨w1.heap.size, 0, none⟩ = some (.int .i64 R.ch.dg) := by rw [HR.out.cell]; rfl
        have r1 : (w29).cell? ⟨w1.heap.size, 1, none⟩ = some (.int .i64 R.ch.tn) := by rw [HR.out.cell]; rfl
        have r2 : (w29).cell? ⟨w1.heap.size, 2, none⟩ = some (.string R.ch.nm) := by rw [HR.out.cell]; rfl
        have r3 : (w29).cell? ⟨w1.heap.size, 3, none⟩ = some (.slice (some ⟨g, 0, none⟩) R.ch.zs.length q) := by rw [HR.out.cell]; rfl
        have r4 : (w29).cell? ⟨w1.heap.size, 4, none⟩ = some (.int .i64 R.ch.wd) := by rw [HR.out.cell]; rfl
        have r5 : (w29).cell? ⟨w1.heap.size, 5, none⟩ = some (.int .i64 R.ch.lf) := by rw [HR.out.cell]; rfl
        have r6 : (w29).cell? ⟨w1.heap.size, 6, none⟩ = some (.int .i64 R.ch.rt) := by rw [HR.out.cell]; rfl
        have r15 : (w29).cell? ⟨w1.heap.size, 15, none⟩ = some (.int .i64 R.ey) := by rw [HR.out.cell]; rfl
        go_wp2_with fail
        go_at_call 10; refine (SafeBound_I R.ch (some ⟨g, 0, none⟩) q R.ey hn hm _ (by repeat (with_reducible first | exact HI.out | assumption | refine Ints.drew ?_ | refine Ints.drewN _ ?_ | refine Ints.alloc _ ?_ | refine Ints.step (by assumption) ?_))).mono ?_; rintro e w30 ⟨rfl, hb30⟩; have hka := zba HB hb30; (try replace HT := yB hb30 hka HT); replace HB := Lib.hid (Bel.step hb30 (Bel.step hka HB.out)); have hsz30 := hb30.size; have hsy30 := hka.size; (try simp only [World.size_alloc, World.size_drew, World.heap_drewN, World.size_setCell] at hsz30 hsy30); clear hka hb30
        clear hsz30 hsy30 r0 r1 r2 r3 r4 r5 r6 r15
        rw [s3, s4]
        have t16 : (w30).cell? ⟨w2.heap.size, 16, none⟩ = some (.int .i64 T.bo) := by rw [HT.out.cell]; rfl
        go_wp2
        go_ret
        exact ⟨rfl, HB.out⟩
end Go.Proofs.YtpmcgicopogbhaaGreat
