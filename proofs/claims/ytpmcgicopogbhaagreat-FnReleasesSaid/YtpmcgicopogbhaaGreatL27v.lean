/- Chapter 27: tightened bounds. Conditions: as stated at each contract. -/
import Derived.Test.YtpmcgicopogbhaaGreatProg
import Derived.Test.YtpmcgicopogbhaaGreatBase
import Derived.Test.YtpmcgicopogbhaaGreatZy
import Derived.Test.YtpmcgicopogbhaaGreatRw
import Derived.Test.YtpmcgicopogbhaaGreatRg
import Derived.Test.YtpmcgicopogbhaaGreatRq
import Derived.Test.YtpmcgicopogbhaaGreatL01
import Derived.Test.YtpmcgicopogbhaaGreatCp
import Derived.Test.YtpmcgicopogbhaaGreatCm
import Derived.Test.YtpmcgicopogbhaaGreatL18
import Derived.Test.YtpmcgicopogbhaaGreatL23
import Derived.Test.YtpmcgicopogbhaaGreatL23b
import Derived.Test.YtpmcgicopogbhaaGreatL03
import Derived.Test.YtpmcgicopogbhaaGreatL23d
import Derived.Test.YtpmcgicopogbhaaGreatL23e
import Derived.Test.YtpmcgicopogbhaaGreatL24
import Derived.Test.YtpmcgicopogbhaaGreatL24b
import Derived.Test.YtpmcgicopogbhaaGreatL23g
import Derived.Test.YtpmcgicopogbhaaGreatL23h
import Derived.Test.YtpmcgicopogbhaaGreatL27o
import Derived.Test.YtpmcgicopogbhaaGreatL27a
import Derived.Test.YtpmcgicopogbhaaGreatL27b
import Derived.WalkKit
import Derived.WalkSpells
import Derived.WalkLawsBesides
import Derived.Lib.Hide
import Derived.Deep.QuietTactic
import Derived.BigQuiet
import Derived.Deep.Draws
import Derived.Deep.RegionHeld3
import Derived.Deep.Cut
import Derived.Deep.WholeRow
namespace Go.Proofs.YtpmcgicopogbhaaGreat
set_option linter.unusedSimpArgs false
open Go.RowKit
set_option linter.unusedVariables false
/-- The release of no thing. -/
def ZR : Re := ⟨⟨0, 0, ⟨#[]⟩, [], 0, 0, 0⟩, 0, 0, 0, 0, 0, 0, 0, 0, 0, 0⟩
def tbC (R : Re) : Int := if okRe R = true then (if sbV R.ch R.ey ≤ 1048576 then 0 else 3) else 1
def tbV (R : Re) : Re := if tbC R = 0 then { R with bo := sbV R.ch R.ey } else ZR
theorem tb_1 {R : Re} (h : okRe R = false) : tbC R = 1 ∧ tbV R = ZR := by
  have : tbC R = 1 := by simp [tbC, h]
  exact ⟨this, by simp [tbV, this]⟩
theorem tb_3 {R : Re} (h : okRe R = true) (h1 : ¬ sbV R.ch R.ey ≤ 1048576) : tbC R = 3 ∧ tbV R = ZR := by
  have : tbC R = 3 := by simp [tbC, h, h1]
  exact ⟨this, by simp [tbV, this]⟩
theorem tb_0 {R : Re} (h : okRe R = true) (h1 : sbV R.ch R.ey ≤ 1048576) : tbC R = 0 ∧ tbV R = { R with bo := sbV R.ch R.ey } := by
  have : tbC R = 0 := by simp [tbC, h, h1]
  exact ⟨this, by simp [tbV, this]⟩
theorem okCh_len {C : Ch} (h : okCh C = true) : 0 < C.zs.length := by
  obtain ⟨_, ⟨hz, _⟩, _⟩ := okCh_iff h
  omega
set_option maxRecDepth 50000 in
set_option maxHeartbeats 2000000 in
theorem TightenBound_S (R : Re) (A : Option Addr) (c : Nat) (hn : R.ch.zs.length ≤ 1048576) (hm : R.ch.nm.size ≤ 1048576) (w : World) (hA : Ints w A R.ch.zs) :
    Calls Tryz.prog 8 #[.agg #[.int .i64 R.ch.dg, .int .i64 R.ch.tn, .string R.ch.nm, .slice A R.ch.zs.length c, .int .i64 R.ch.wd, .int .i64 R.ch.lf, .int .i64 R.ch.rt, .int .i64 R.ad, .int .i64 R.at_, .int .i64 R.bd, .int .i64 R.bt, .int .i64 R.cd, .int .i64 R.ct, .int .i64 R.dd, .int .i64 R.dt, .int .i64 R.ey, .int .i64 R.bo]] w fun e w' => ∃ A' c', e = .returned (.tuple #[.agg #[.int .i64 (tbV R).ch.dg, .int .i64 (tbV R).ch.tn, .string (tbV R).ch.nm, .slice A' (tbV R).ch.zs.length c', .int .i64 (tbV R).ch.wd, .int .i64 (tbV R).ch.lf, .int .i64 (tbV R).ch.rt, .int .i64 (tbV R).ad, .int .i64 (tbV R).at_, .int .i64 (tbV R).bd, .int .i64 (tbV R).bt, .int .i64 (tbV R).cd, .int .i64 (tbV R).ct, .int .i64 (tbV R).dd, .int .i64 (tbV R).dt, .int .i64 (tbV R).ey, .int .i64 (tbV R).bo], .int .i64 (tbC R)]) ∧ Own w' w.heap.size 2 (.slice A' (tbV R).ch.zs.length c') (tbV R).ch.zs ∧ Below w.heap.size w w' := by
  go_enter Tryz.func8, Tryz.ntmps8
  go_upto_region 1 with (fail)
  have HB : Blk ((w.alloc (.cells #[.int .i64 R.ch.dg, .int .i64 R.ch.tn, .string R.ch.nm, .slice A R.ch.zs.length c, .int .i64 R.ch.wd, .int .i64 R.ch.lf, .int .i64 R.ch.rt, .int .i64 R.ad, .int .i64 R.at_, .int .i64 R.bd, .int .i64 R.bt, .int .i64 R.cd, .int .i64 R.ct, .int .i64 R.dd, .int .i64 R.dt, .int .i64 R.ey, .int .i64 R.bo] 32)).alloc (.cells #[.int .i64 0, .int .i64 0, .string ⟨#[]⟩, .slice none 0 0, .int .i64 0, .int .i64 0, .int .i64 0, .int .i64 0, .int .i64 0, .int .i64 0, .int .i64 0, .int .i64 0, .int .i64 0, .int .i64 0, .int .i64 0, .int .i64 0, .int .i64 0] 32)) (w.heap.size) 32 #[.int .i64 R.ch.dg, .int .i64 R.ch.tn, .string R.ch.nm, .slice A R.ch.zs.length c, .int .i64 R.ch.wd, .int .i64 R.ch.lf, .int .i64 R.ch.rt, .int .i64 R.ad, .int .i64 R.at_, .int .i64 R.bd, .int .i64 R.bt, .int .i64 R.cd, .int .i64 R.ct, .int .i64 R.dd, .int .i64 R.dt, .int .i64 R.ey, .int .i64 R.bo] := Blk.alloc _ (Blk.new _ _ _)
  have HT : Blk ((w.alloc (.cells #[.int .i64 R.ch.dg, .int .i64 R.ch.tn, .string R.ch.nm, .slice A R.ch.zs.length c, .int .i64 R.ch.wd, .int .i64 R.ch.lf, .int .i64 R.ch.rt, .int .i64 R.ad, .int .i64 R.at_, .int .i64 R.bd, .int .i64 R.bt, .int .i64 R.cd, .int .i64 R.ct, .int .i64 R.dd, .int .i64 R.dt, .int .i64 R.ey, .int .i64 R.bo] 32)).alloc (.cells #[.int .i64 0, .int .i64 0, .string ⟨#[]⟩, .slice none 0 0, .int .i64 0, .int .i64 0, .int .i64 0, .int .i64 0, .int .i64 0, .int .i64 0, .int .i64 0, .int .i64 0, .int .i64 0, .int .i64 0, .int .i64 0, .int .i64 0, .int .i64 0] 32)) (w.heap.size + 1) 32 #[.int .i64 0, .int .i64 0, .string ⟨#[]⟩, .slice none 0 0, .int .i64 0, .int .i64 0, .int .i64 0, .int .i64 0, .int .i64 0, .int .i64 0, .int .i64 0, .int .i64 0, .int .i64 0, .int .i64 0, .int .i64 0, .int .i64 0, .int .i64 0] := by have h := Blk.new (w.alloc (.cells #[.int .i64 R.ch.dg, .int .i64 R.ch.tn, .string R.ch.nm, .slice A R.ch.zs.length c, .int .i64 R.ch.wd, .int .i64 R.ch.lf, .int .i64 R.ch.rt, .int .i64 R.ad, .int .i64 R.at_, .int .i64 R.bd, .int .i64 R.bt, .int .i64 R.cd, .int .i64 R.ct, .int .i64 R.dd, .int .i64 R.dt, .int .i64 R.ey, .int .i64 R.bo] 32)) 32 #[.int .i64 0, .int .i64 0, .string ⟨#[]⟩, .slice none 0 0, .int .i64 0, .int .i64 0, .int .i64 0, .int .i64 0, .int .i64 0, .int .i64 0, .int .i64 0, .int .i64 0, .int .i64 0, .int .i64 0, .int .i64 0, .int .i64 0, .int .i64 0]; simp only [World.size_alloc] at h; exact h
  have hbel0 : Below w.heap.size w ((w.alloc (.cells #[.int .i64 R.ch.dg, .int .i64 R.ch.tn, .string R.ch.nm, .slice A R.ch.zs.length c, .int .i64 R.ch.wd, .int .i64 R.ch.lf, .int .i64 R.ch.rt, .int .i64 R.ad, .int .i64 R.at_, .int .i64 R.bd, .int .i64 R.bt, .int .i64 R.cd, .int .i64 R.ct, .int .i64 R.dd, .int .i64 R.dt, .int .i64 R.ey, .int .i64 R.bo] 32)).alloc (.cells #[.int .i64 0, .int .i64 0, .string ⟨#[]⟩, .slice none 0 0, .int .i64 0, .int .i64 0, .int .i64 0, .int .i64 0, .int .i64 0, .int .i64 0, .int .i64 0, .int .i64 0, .int .i64 0, .int .i64 0, .int .i64 0, .int .i64 0, .int .i64 0] 32)) := by repeat (with_reducible first | exact Below.refl _ _ | assumption | refine Bel.alloc ?_ _ | refine Bel.step (by assumption) ?_ | refine Below.drew ?_ | refine Bel.drewN ?_ _ | refine Below.setCell ?_ (by first | exact Nat.le_refl _ | omega | (simp; done) | (simp; omega)) _)
  have HI := Lib.hid (Ints.step hbel0 hA)
  generalize (w.alloc (.cells #[.int .i64 R.ch.dg, .int .i64 R.ch.tn, .string R.ch.nm, .slice A R.ch.zs.length c, .int .i64 R.ch.wd, .int .i64 R.ch.lf, .int .i64 R.ch.rt, .int .i64 R.ad, .int .i64 R.at_, .int .i64 R.bd, .int .i64 R.bt, .int .i64 R.cd, .int .i64 R.ct, .int .i64 R.dd, .int .i64 R.dt, .int .i64 R.ey, .int .i64 R.bo] 32)).alloc (.cells #[.int .i64 0, .int .i64 0, .string ⟨#[]⟩, .slice none 0 0, .int .i64 0, .int .i64 0, .int .i64 0, .int .i64 0, .int .i64 0, .int .i64 0, .int .i64 0, .int .i64 0, .int .i64 0, .int .i64 0, .int .i64 0, .int .i64 0, .int .i64 0] 32) = w0 at HB HT hbel0 HI ⊢
  go_wp2_with (refine wpList_load_blkG 32 _ _ HB Tryz.underlying32 (by kernel_rfl) rfl rfl (by rfl) ?_)
  go_at_call 22; refine (IsRelease_S _ _ _ hn hm _ (by repeat (with_reducible first | exact HI.out | assumption | refine Ints.drew ?_ | refine Ints.drewN _ ?_ | refine Ints.alloc _ ?_ | refine Ints.step (by assumption) ?_))).mono ?_; rintro e w1 ⟨rfl, hb1⟩; obtain ⟨hc1, hf1, hz1⟩ := bel hb1; (try simp only [World.size_drew, World.cell?_drew, World.frozen?_drew, World.heap_drewN, World.cell?_drewN, World.frozen?_drewN] at hc1 hf1 hz1); (try have hl1 : w.heap.size < w1.heap.size := zl hb1); (try have hm1 : w.heap.size + 1 < w1.heap.size := zl hb1); (try have hn1 : w.heap.size + 1 + 1 < w1.heap.size := zl hb1); (try have hp1 : b < w1.heap.size := zl hb1); (try have ho1 : b' < w1.heap.size := by (have hq := hb1.size; (try simp at hq); omega))
  have hbel1 := Bel.step hb1 hbel0
  have HB1 := Blk.step hb1 HB
  have HT1 := Blk.step hb1 HT
  have HI1 := Lib.hid (Ints.step hb1 HI.out)
  clear hb1 hc1 hf1 hz1 HB HT HI hbel0
  cases hx : okRe R
  · have HV := Lib.hid (tb_1 hx)
    clear hx
    go_wp2_with (refine wpList_store_blk (cs := #[.int .i64 0, .int .i64 0, .string ⟨#[]⟩, .slice none 0 0, .int .i64 0, .int .i64 0, .int .i64 0, .int .i64 0, .int .i64 0, .int .i64 0, .int .i64 0, .int .i64 0, .int .i64 0, .int .i64 0, .int .i64 0, .int .i64 0, .int .i64 0]) 32 _ _ _ HT1 (by kernel_rfl) rfl (by simp [Value.oneCell']) rfl rfl rfl rfl ?_)
    refine bodyPost_ret (results_blk2 (Blk.setRow #[.int .i64 0, .int .i64 0, .string ⟨#[]⟩, .slice none 0 0, .int .i64 0, .int .i64 0, .int .i64 0, .int .i64 0, .int .i64 0, .int .i64 0, .int .i64 0, .int .i64 0, .int .i64 0, .int .i64 0, .int .i64 0, .int .i64 0, .int .i64 0] HT1) Tryz.underlying32 (by kernel_rfl) rfl rfl) rfl ⟨none, 0, by rw [HV.out.1, HV.out.2]; rfl, by rw [HV.out.2]; exact Own.nil _ _ _, Bel.setRow hbel1 (by omega) _⟩
  obtain ⟨k1, _, _, _, _, k2, _⟩ := okRe_iff hx
  obtain ⟨e1, e2⟩ := inB_iff.1 k2
  have HK := Lib.hid k1
  have HX := Lib.hid hx
  have h0 := okCh_len k1
  clear hx k1 k2
  have p0 : w1.cell? ⟨w.heap.size, 0, none⟩ = some (.int .i64 R.ch.dg) := by rw [HB1.cell]; rfl
  have p1 : w1.cell? ⟨w.heap.size, 1, none⟩ = some (.int .i64 R.ch.tn) := by rw [HB1.cell]; rfl
  have p2 : w1.cell? ⟨w.heap.size, 2, none⟩ = some (.string R.ch.nm) := by rw [HB1.cell]; rfl
  have p3 : w1.cell? ⟨w.heap.size, 3, none⟩ = some (.slice A R.ch.zs.length c) := by rw [HB1.cell]; rfl
  have p4 : w1.cell? ⟨w.heap.size, 4, none⟩ = some (.int .i64 R.ch.wd) := by rw [HB1.cell]; rfl
  have p5 : w1.cell? ⟨w.heap.size, 5, none⟩ = some (.int .i64 R.ch.lf) := by rw [HB1.cell]; rfl
  have p6 : w1.cell? ⟨w.heap.size, 6, none⟩ = some (.int .i64 R.ch.rt) := by rw [HB1.cell]; rfl
  have p7 : w1.cell? ⟨w.heap.size, 7, none⟩ = some (.int .i64 R.ad) := by rw [HB1.cell]; rfl
  have p8 : w1.cell? ⟨w.heap.size, 8, none⟩ = some (.int .i64 R.at_) := by rw [HB1.cell]; rfl
  have p9 : w1.cell? ⟨w.heap.size, 9, none⟩ = some (.int .i64 R.bd) := by rw [HB1.cell]; rfl
  have p10 : w1.cell? ⟨w.heap.size, 10, none⟩ = some (.int .i64 R.bt) := by rw [HB1.cell]; rfl
  have p11 : w1.cell? ⟨w.heap.size, 11, none⟩ = some (.int .i64 R.cd) := by rw [HB1.cell]; rfl
  have p12 : w1.cell? ⟨w.heap.size, 12, none⟩ = some (.int .i64 R.ct) := by rw [HB1.cell]; rfl
  have p13 : w1.cell? ⟨w.heap.size, 13, none⟩ = some (.int .i64 R.dd) := by rw [HB1.cell]; rfl
  have p14 : w1.cell? ⟨w.heap.size, 14, none⟩ = some (.int .i64 R.dt) := by rw [HB1.cell]; rfl
  have p15 : w1.cell? ⟨w.heap.size, 15, none⟩ = some (.int .i64 R.ey) := by rw [HB1.cell]; rfl
  have p16 : w1.cell? ⟨w.heap.size, 16, none⟩ = some (.int .i64 R.bo) := by rw [HB1.cell]; rfl
  go_wp2_with fail
  go_at_call 49; refine (l27Safe_c _ _ _ _ HK.out e1 e2 _ (by repeat (with_reducible first | exact HI1.out | assumption | refine Ints.drew ?_ | refine Ints.drewN _ ?_ | refine Ints.alloc _ ?_ | refine Ints.step (by assumption) ?_))).mono ?_; rintro e w2 ⟨rfl, hb2⟩; obtain ⟨hc2, hf2, hz2⟩ := bel hb2; (try simp only [World.size_drew, World.cell?_drew, World.frozen?_drew, World.heap_drewN, World.cell?_drewN, World.frozen?_drewN] at hc2 hf2 hz2); (try have hl2 : w.heap.size < w2.heap.size := zl hb2); (try have hm2 : w.heap.size + 1 < w2.heap.size := zl hb2); (try have hn2 : w.heap.size + 1 + 1 < w2.heap.size := zl hb2); (try have hp2 : b < w2.heap.size := zl hb2); (try have ho2 : b' < w2.heap.size := by (have hq := hb2.size; (try simp at hq); omega))
  have hbel2 := Bel.step hb2 hbel1
  have HB2 := Blk.step hb2 HB1
  have HT2 := Blk.step hb2 HT1
  have HI2 := Lib.hid (Ints.step hb2 HI1.out)
  clear hb2 hc2 hf2 hz2 HB1 HT1 HI1 hbel1 p0 p1 p2 p3 p4 p5 p6 p7 p8 p9 p10 p11 p12 p13 p14 p15 p16
  by_cases hb : sbV R.ch R.ey ≤ 1048576
  rotate_left
  · have HV := Lib.hid (tb_3 HX.out hb)
    generalize sbV R.ch R.ey = x at hb ⊢
    go_wp2_with (refine wpList_store_blk (cs := #[.int .i64 0, .int .i64 0, .string ⟨#[]⟩, .slice none 0 0, .int .i64 0, .int .i64 0, .int .i64 0, .int .i64 0, .int .i64 0, .int .i64 0, .int .i64 0, .int .i64 0, .int .i64 0, .int .i64 0, .int .i64 0, .int .i64 0, .int .i64 0]) 32 _ _ _ HT2 (by kernel_rfl) rfl (by simp [Value.oneCell']) rfl rfl rfl rfl ?_)
    refine bodyPost_ret (results_blk2 (Blk.setRow #[.int .i64 0, .int .i64 0, .string ⟨#[]⟩, .slice none 0 0, .int .i64 0, .int .i64 0, .int .i64 0, .int .i64 0, .int .i64 0, .int .i64 0, .int .i64 0, .int .i64 0, .int .i64 0, .int .i64 0, .int .i64 0, .int .i64 0, .int .i64 0] HT2) Tryz.underlying32 (by kernel_rfl) rfl rfl) rfl ⟨none, 0, by rw [HV.out.1, HV.out.2]; rfl, by rw [HV.out.2]; exact Own.nil _ _ _, Bel.setRow hbel2 (by omega) _⟩
  have HV := Lib.hid (tb_0 HX.out hb)
  generalize sbV R.ch R.ey = x at *
  have l2 := HB2.lt
  have q16 : w2.cell? ⟨w.heap.size, 16, none⟩ = some (.int .i64 R.bo) := by rw [HB2.cell]; rfl
  have qf16 := HB2.frozen 16
  go_upto_region 7 with (fail)
  have HB3 : Blk (w2.setCell ⟨w.heap.size, 16, none⟩ (.int .i64 x)) w.heap.size 32 #[.int .i64 ({ R with bo := x } : Re).ch.dg, .int .i64 ({ R with bo := x } : Re).ch.tn, .string ({ R with bo := x } : Re).ch.nm, .slice A ({ R with bo := x } : Re).ch.zs.length c, .int .i64 ({ R with bo := x } : Re).ch.wd, .int .i64 ({ R with bo := x } : Re).ch.lf, .int .i64 ({ R with bo := x } : Re).ch.rt, .int .i64 ({ R with bo := x } : Re).ad, .int .i64 ({ R with bo := x } : Re).at_, .int .i64 ({ R with bo := x } : Re).bd, .int .i64 ({ R with bo := x } : Re).bt, .int .i64 ({ R with bo := x } : Re).cd, .int .i64 ({ R with bo := x } : Re).ct, .int .i64 ({ R with bo := x } : Re).dd, .int .i64 ({ R with bo := x } : Re).dt, .int .i64 ({ R with bo := x } : Re).ey, .int .i64 ({ R with bo := x } : Re).bo] := by simpa using HB2.set_ 16 (.int .i64 x)
  have HT3 : Blk (w2.setCell ⟨w.heap.size, 16, none⟩ (.int .i64 x)) (w.heap.size + 1) 32 #[.int .i64 0, .int .i64 0, .string ⟨#[]⟩, .slice none 0 0, .int .i64 0, .int .i64 0, .int .i64 0, .int .i64 0, .int .i64 0, .int .i64 0, .int .i64 0, .int .i64 0, .int .i64 0, .int .i64 0, .int .i64 0, .int .i64 0, .int .i64 0] := Blk.far _ (by simp) HT2
  have hbel3 : Below w.heap.size w (w2.setCell ⟨w.heap.size, 16, none⟩ (.int .i64 x)) := hbel2.setCell (Nat.le_refl _) _
  have HI3 : Hid (Ints (w2.setCell ⟨w.heap.size, 16, none⟩ (.int .i64 x)) A R.ch.zs) := Lib.hid (Ints.step hbel3 hA)
  generalize w2.setCell ⟨w.heap.size, 16, none⟩ (.int .i64 x) = V at HB3 HT3 hbel3 HI3 ⊢
  clear HB2 HT2 HI2 hbel2 q16 qf16 l2
  have r0 : V.cell? ⟨w.heap.size, 0, none⟩ = some (.int .i64 R.ch.dg) := by rw [HB3.cell]; rfl
  have r1 : V.cell? ⟨w.heap.size, 1, none⟩ = some (.int .i64 R.ch.tn) := by rw [HB3.cell]; rfl
  have r2 : V.cell? ⟨w.heap.size, 2, none⟩ = some (.string R.ch.nm) := by rw [HB3.cell]; rfl
  have r3 : V.cell? ⟨w.heap.size, 3, none⟩ = some (.slice A R.ch.zs.length c) := by rw [HB3.cell]; rfl
  go_wp2_with fail
  go_at_call 50; refine (l18Own_c R.ch A c h0 hn _ (by repeat (with_reducible first | exact HI3.out | assumption | refine Ints.drew ?_ | refine Ints.drewN _ ?_ | refine Ints.alloc _ ?_ | refine Ints.step (by assumption) ?_))).mono ?_; rintro e w3 ⟨A3, c3, rfl, hO3, hb3⟩
  have HB4 := Blk.step hb3 HB3
  have HT4 := Blk.step hb3 HT3
  have hbel4 := Bel.step hb3 hbel3
  have l4 : w.heap.size + 1 < V.heap.size := HT3.lt
  have l5 : w.heap.size + 1 < w3.heap.size := HT4.lt
  have l6 : w.heap.size < w3.heap.size := by omega
  clear hb3 HB3 HT3 hbel3 HI3 r0 r1 r2 r3
  have r0 : w3.cell? ⟨w.heap.size, 0, none⟩ = some (.int .i64 R.ch.dg) := by rw [HB4.cell]; rfl
  have r1 : w3.cell? ⟨w.heap.size, 1, none⟩ = some (.int .i64 R.ch.tn) := by rw [HB4.cell]; rfl
  have r2 : w3.cell? ⟨w.heap.size, 2, none⟩ = some (.string R.ch.nm) := by rw [HB4.cell]; rfl
  have r3 : w3.cell? ⟨w.heap.size, 3, none⟩ = some (.slice A R.ch.zs.length c) := by rw [HB4.cell]; rfl
  have f0 := HB4.frozen 0
  have f1 := HB4.frozen 1
  have f2 := HB4.frozen 2
  have f3 := HB4.frozen 3
  go_upto_region 8 with (fail)
  have HB5 : Blk ((((w3.setCell ⟨w.heap.size, 0, none⟩ (.int .i64 R.ch.dg)).setCell ⟨w.heap.size, 1, none⟩ (.int .i64 R.ch.tn)).setCell ⟨w.heap.size, 2, none⟩ (.string R.ch.nm)).setCell ⟨w.heap.size, 3, none⟩ (.slice A3 R.ch.zs.length c3)) w.heap.size 32 #[.int .i64 ({ R with bo := x } : Re).ch.dg, .int .i64 ({ R with bo := x } : Re).ch.tn, .string ({ R with bo := x } : Re).ch.nm, .slice A3 ({ R with bo := x } : Re).ch.zs.length c3, .int .i64 ({ R with bo := x } : Re).ch.wd, .int .i64 ({ R with bo := x } : Re).ch.lf, .int .i64 ({ R with bo := x } : Re).ch.rt, .int .i64 ({ R with bo := x } : Re).ad, .int .i64 ({ R with bo := x } : Re).at_, .int .i64 ({ R with bo := x } : Re).bd, .int .i64 ({ R with bo := x } : Re).bt, .int .i64 ({ R with bo := x } : Re).cd, .int .i64 ({ R with bo := x } : Re).ct, .int .i64 ({ R with bo := x } : Re).dd, .int .i64 ({ R with bo := x } : Re).dt, .int .i64 ({ R with bo := x } : Re).ey, .int .i64 ({ R with bo := x } : Re).bo] := by simpa using (((HB4.set_ 0 (.int .i64 R.ch.dg)).set_ 1 (.int .i64 R.ch.tn)).set_ 2 (.string R.ch.nm)).set_ 3 (.slice A3 R.ch.zs.length c3)
  have HT5 : Blk ((((w3.setCell ⟨w.heap.size, 0, none⟩ (.int .i64 R.ch.dg)).setCell ⟨w.heap.size, 1, none⟩ (.int .i64 R.ch.tn)).setCell ⟨w.heap.size, 2, none⟩ (.string R.ch.nm)).setCell ⟨w.heap.size, 3, none⟩ (.slice A3 R.ch.zs.length c3)) (w.heap.size + 1) 32 #[.int .i64 0, .int .i64 0, .string ⟨#[]⟩, .slice none 0 0, .int .i64 0, .int .i64 0, .int .i64 0, .int .i64 0, .int .i64 0, .int .i64 0, .int .i64 0, .int .i64 0, .int .i64 0, .int .i64 0, .int .i64 0, .int .i64 0, .int .i64 0] := (by repeat (with_reducible first | exact HT4 | refine Blk.far _ (by first | (simp; done) | (simp; omega)) ?_))
  have hO5 : Own ((((w3.setCell ⟨w.heap.size, 0, none⟩ (.int .i64 R.ch.dg)).setCell ⟨w.heap.size, 1, none⟩ (.int .i64 R.ch.tn)).setCell ⟨w.heap.size, 2, none⟩ (.string R.ch.nm)).setCell ⟨w.heap.size, 3, none⟩ (.slice A3 R.ch.zs.length c3)) V.heap.size 2 (.slice A3 R.ch.zs.length c3) R.ch.zs := Own.setCell_lo (Own.setCell_lo (Own.setCell_lo (Own.setCell_lo hO3 (by omega) _) (by omega) _) (by omega) _) (by omega) _
  have hbel5 : Below w.heap.size w ((((w3.setCell ⟨w.heap.size, 0, none⟩ (.int .i64 R.ch.dg)).setCell ⟨w.heap.size, 1, none⟩ (.int .i64 R.ch.tn)).setCell ⟨w.heap.size, 2, none⟩ (.string R.ch.nm)).setCell ⟨w.heap.size, 3, none⟩ (.slice A3 R.ch.zs.length c3)) := by repeat (with_reducible first | exact Below.refl _ _ | assumption | refine Bel.alloc ?_ _ | refine Bel.step (by assumption) ?_ | refine Below.drew ?_ | refine Bel.drewN ?_ _ | refine Below.setCell ?_ (by first | exact Nat.le_refl _ | omega | (simp; done) | (simp; omega)) _)
  generalize ((((w3.setCell ⟨w.heap.size, 0, none⟩ (.int .i64 R.ch.dg)).setCell ⟨w.heap.size, 1, none⟩ (.int .i64 R.ch.tn)).setCell ⟨w.heap.size, 2, none⟩ (.string R.ch.nm)).setCell ⟨w.heap.size, 3, none⟩ (.slice A3 R.ch.zs.length c3)) = U at HB5 HT5 hO5 hbel5 ⊢
  clear HB4 HT4 hO3 hbel4 r0 r1 r2 r3 f0 f1 f2 f3
  apply wp_region_lit
  refine wpList_load_blk 32 _ _ HB5 Tryz.underlying32 (by kernel_rfl) rfl rfl rfl ?_
  refine wpList_store_blk (cs := #[.int .i64 ({ R with bo := x } : Re).ch.dg, .int .i64 ({ R with bo := x } : Re).ch.tn, .string ({ R with bo := x } : Re).ch.nm, .slice A3 ({ R with bo := x } : Re).ch.zs.length c3, .int .i64 ({ R with bo := x } : Re).ch.wd, .int .i64 ({ R with bo := x } : Re).ch.lf, .int .i64 ({ R with bo := x } : Re).ch.rt, .int .i64 ({ R with bo := x } : Re).ad, .int .i64 ({ R with bo := x } : Re).at_, .int .i64 ({ R with bo := x } : Re).bd, .int .i64 ({ R with bo := x } : Re).bt, .int .i64 ({ R with bo := x } : Re).cd, .int .i64 ({ R with bo := x } : Re).ct, .int .i64 ({ R with bo := x } : Re).dd, .int .i64 ({ R with bo := x } : Re).dt, .int .i64 ({ R with bo := x } : Re).ey, .int .i64 ({ R with bo := x } : Re).bo]) 32 _ _ _ HT5 (by kernel_rfl) rfl (by simp [Value.oneCell']) rfl rfl rfl rfl ?_
  have hO6 := Own.setRow_lo (g := w.heap.size + 1) hO5 (by omega) #[.int .i64 ({ R with bo := x } : Re).ch.dg, .int .i64 ({ R with bo := x } : Re).ch.tn, .string ({ R with bo := x } : Re).ch.nm, .slice A3 ({ R with bo := x } : Re).ch.zs.length c3, .int .i64 ({ R with bo := x } : Re).ch.wd, .int .i64 ({ R with bo := x } : Re).ch.lf, .int .i64 ({ R with bo := x } : Re).ch.rt, .int .i64 ({ R with bo := x } : Re).ad, .int .i64 ({ R with bo := x } : Re).at_, .int .i64 ({ R with bo := x } : Re).bd, .int .i64 ({ R with bo := x } : Re).bt, .int .i64 ({ R with bo := x } : Re).cd, .int .i64 ({ R with bo := x } : Re).ct, .int .i64 ({ R with bo := x } : Re).dd, .int .i64 ({ R with bo := x } : Re).dt, .int .i64 ({ R with bo := x } : Re).ey, .int .i64 ({ R with bo := x } : Re).bo]
  go_wp2_with fail
  refine bodyPost_ret (results_blk2 (Blk.setRow #[.int .i64 ({ R with bo := x } : Re).ch.dg, .int .i64 ({ R with bo := x } : Re).ch.tn, .string ({ R with bo := x } : Re).ch.nm, .slice A3 ({ R with bo := x } : Re).ch.zs.length c3, .int .i64 ({ R with bo := x } : Re).ch.wd, .int .i64 ({ R with bo := x } : Re).ch.lf, .int .i64 ({ R with bo := x } : Re).ch.rt, .int .i64 ({ R with bo := x } : Re).ad, .int .i64 ({ R with bo := x } : Re).at_, .int .i64 ({ R with bo := x } : Re).bd, .int .i64 ({ R with bo := x } : Re).bt, .int .i64 ({ R with bo := x } : Re).cd, .int .i64 ({ R with bo := x } : Re).ct, .int .i64 ({ R with bo := x } : Re).dd, .int .i64 ({ R with bo := x } : Re).dt, .int .i64 ({ R with bo := x } : Re).ey, .int .i64 ({ R with bo := x } : Re).bo] HT5) Tryz.underlying32 (by kernel_rfl) rfl rfl) rfl ⟨A3, c3, by rw [HV.out.1, HV.out.2]; rfl, by rw [HV.out.2]; exact Own.ge_mono hO6 (by omega), Bel.setRow hbel5 (by omega) _⟩
set_option maxRecDepth 50000 in
set_option maxHeartbeats 2000000 in
theorem ownRelease_c (R : Re) (A : Option Addr) (c : Nat) (h0 : 0 < R.ch.zs.length) (hn : R.ch.zs.length ≤ 1048576) (w : World) (hA : Ints w A R.ch.zs) :
    Calls Tryz.prog 47 #[.agg #[.int .i64 R.ch.dg, .int .i64 R.ch.tn, .string R.ch.nm, .slice A R.ch.zs.length c, .int .i64 R.ch.wd, .int .i64 R.ch.lf, .int .i64 R.ch.rt, .int .i64 R.ad, .int .i64 R.at_, .int .i64 R.bd, .int .i64 R.bt, .int .i64 R.cd, .int .i64 R.ct, .int .i64 R.dd, .int .i64 R.dt, .int .i64 R.ey, .int .i64 R.bo]] w fun e w' => ∃ A' c', e = .returned (.agg #[.int .i64 R.ch.dg, .int .i64 R.ch.tn, .string R.ch.nm, .slice A' R.ch.zs.length c', .int .i64 R.ch.wd, .int .i64 R.ch.lf, .int .i64 R.ch.rt, .int .i64 R.ad, .int .i64 R.at_, .int .i64 R.bd, .int .i64 R.bt, .int .i64 R.cd, .int .i64 R.ct, .int .i64 R.dd, .int .i64 R.dt, .int .i64 R.ey, .int .i64 R.bo]) ∧ Own w' w.heap.size 2 (.slice A' R.ch.zs.length c') R.ch.zs ∧ Below w.heap.size w w' := by
  go_enter Tryz.func47, Tryz.ntmps47
  go_upto_region 1 with (fail)
  have HB : Blk ((w.alloc (.cells #[.int .i64 R.ch.dg, .int .i64 R.ch.tn, .string R.ch.nm, .slice A R.ch.zs.length c, .int .i64 R.ch.wd, .int .i64 R.ch.lf, .int .i64 R.ch.rt, .int .i64 R.ad, .int .i64 R.at_, .int .i64 R.bd, .int .i64 R.bt, .int .i64 R.cd, .int .i64 R.ct, .int .i64 R.dd, .int .i64 R.dt, .int .i64 R.ey, .int .i64 R.bo] 32)).alloc (.cells #[.int .i64 0, .int .i64 0, .string ⟨#[]⟩, .slice none 0 0, .int .i64 0, .int .i64 0, .int .i64 0, .int .i64 0, .int .i64 0, .int .i64 0, .int .i64 0, .int .i64 0, .int .i64 0, .int .i64 0, .int .i64 0, .int .i64 0, .int .i64 0] 32)) (w.heap.size) 32 #[.int .i64 R.ch.dg, .int .i64 R.ch.tn, .string R.ch.nm, .slice A R.ch.zs.length c, .int .i64 R.ch.wd, .int .i64 R.ch.lf, .int .i64 R.ch.rt, .int .i64 R.ad, .int .i64 R.at_, .int .i64 R.bd, .int .i64 R.bt, .int .i64 R.cd, .int .i64 R.ct, .int .i64 R.dd, .int .i64 R.dt, .int .i64 R.ey, .int .i64 R.bo] := Blk.alloc _ (Blk.new _ _ _)
  have HT : Blk ((w.alloc (.cells #[.int .i64 R.ch.dg, .int .i64 R.ch.tn, .string R.ch.nm, .slice A R.ch.zs.length c, .int .i64 R.ch.wd, .int .i64 R.ch.lf, .int .i64 R.ch.rt, .int .i64 R.ad, .int .i64 R.at_, .int .i64 R.bd, .int .i64 R.bt, .int .i64 R.cd, .int .i64 R.ct, .int .i64 R.dd, .int .i64 R.dt, .int .i64 R.ey, .int .i64 R.bo] 32)).alloc (.cells #[.int .i64 0, .int .i64 0, .string ⟨#[]⟩, .slice none 0 0, .int .i64 0, .int .i64 0, .int .i64 0, .int .i64 0, .int .i64 0, .int .i64 0, .int .i64 0, .int .i64 0, .int .i64 0, .int .i64 0, .int .i64 0, .int .i64 0, .int .i64 0] 32)) (w.heap.size + 1) 32 #[.int .i64 0, .int .i64 0, .string ⟨#[]⟩, .slice none 0 0, .int .i64 0, .int .i64 0, .int .i64 0, .int .i64 0, .int .i64 0, .int .i64 0, .int .i64 0, .int .i64 0, .int .i64 0, .int .i64 0, .int .i64 0, .int .i64 0, .int .i64 0] := by have h := Blk.new (w.alloc (.cells #[.int .i64 R.ch.dg, .int .i64 R.ch.tn, .string R.ch.nm, .slice A R.ch.zs.length c, .int .i64 R.ch.wd, .int .i64 R.ch.lf, .int .i64 R.ch.rt, .int .i64 R.ad, .int .i64 R.at_, .int .i64 R.bd, .int .i64 R.bt, .int .i64 R.cd, .int .i64 R.ct, .int .i64 R.dd, .int .i64 R.dt, .int .i64 R.ey, .int .i64 R.bo] 32)) 32 #[.int .i64 0, .int .i64 0, .string ⟨#[]⟩, .slice none 0 0, .int .i64 0, .int .i64 0, .int .i64 0, .int .i64 0, .int .i64 0, .int .i64 0, .int .i64 0, .int .i64 0, .int .i64 0, .int .i64 0, .int .i64 0, .int .i64 0, .int .i64 0]; simp only [World.size_alloc] at h; exact h
  have hbel0 : Below w.heap.size w ((w.alloc (.cells #[.int .i64 R.ch.dg, .int .i64 R.ch.tn, .string R.ch.nm, .slice A R.ch.zs.length c, .int .i64 R.ch.wd, .int .i64 R.ch.lf, .int .i64 R.ch.rt, .int .i64 R.ad, .int .i64 R.at_, .int .i64 R.bd, .int .i64 R.bt, .int .i64 R.cd, .int .i64 R.ct, .int .i64 R.dd, .int .i64 R.dt, .int .i64 R.ey, .int .i64 R.bo] 32)).alloc (.cells #[.int .i64 0, .int .i64 0, .string ⟨#[]⟩, .slice none 0 0, .int .i64 0, .int .i64 0, .int .i64 0, .int .i64 0, .int .i64 0, .int .i64 0, .int .i64 0, .int .i64 0, .int .i64 0, .int .i64 0, .int .i64 0, .int .i64 0, .int .i64 0] 32)) := by repeat (with_reducible first | exact Below.refl _ _ | assumption | refine Bel.alloc ?_ _ | refine Bel.step (by assumption) ?_ | refine Below.drew ?_ | refine Bel.drewN ?_ _ | refine Below.setCell ?_ (by first | exact Nat.le_refl _ | omega | (simp; done) | (simp; omega)) _)
  have HI := Lib.hid (Ints.step hbel0 hA)
  generalize (w.alloc (.cells #[.int .i64 R.ch.dg, .int .i64 R.ch.tn, .string R.ch.nm, .slice A R.ch.zs.length c, .int .i64 R.ch.wd, .int .i64 R.ch.lf, .int .i64 R.ch.rt, .int .i64 R.ad, .int .i64 R.at_, .int .i64 R.bd, .int .i64 R.bt, .int .i64 R.cd, .int .i64 R.ct, .int .i64 R.dd, .int .i64 R.dt, .int .i64 R.ey, .int .i64 R.bo] 32)).alloc (.cells #[.int .i64 0, .int .i64 0, .string ⟨#[]⟩, .slice none 0 0, .int .i64 0, .int .i64 0, .int .i64 0, .int .i64 0, .int .i64 0, .int .i64 0, .int .i64 0, .int .i64 0, .int .i64 0, .int .i64 0, .int .i64 0, .int .i64 0, .int .i64 0] 32) = w0 at HB HT hbel0 HI ⊢
  have p0 : w0.cell? ⟨w.heap.size, 0, none⟩ = some (.int .i64 R.ch.dg) := by rw [HB.cell]; rfl
  have p1 : w0.cell? ⟨w.heap.size, 1, none⟩ = some (.int .i64 R.ch.tn) := by rw [HB.cell]; rfl
  have p2 : w0.cell? ⟨w.heap.size, 2, none⟩ = some (.string R.ch.nm) := by rw [HB.cell]; rfl
  have p3 : w0.cell? ⟨w.heap.size, 3, none⟩ = some (.slice A R.ch.zs.length c) := by rw [HB.cell]; rfl
  have p4 : w0.cell? ⟨w.heap.size, 4, none⟩ = some (.int .i64 R.ch.wd) := by rw [HB.cell]; rfl
  have p5 : w0.cell? ⟨w.heap.size, 5, none⟩ = some (.int .i64 R.ch.lf) := by rw [HB.cell]; rfl
  have p6 : w0.cell? ⟨w.heap.size, 6, none⟩ = some (.int .i64 R.ch.rt) := by rw [HB.cell]; rfl
  have p7 : w0.cell? ⟨w.heap.size, 7, none⟩ = some (.int .i64 R.ad) := by rw [HB.cell]; rfl
  have p8 : w0.cell? ⟨w.heap.size, 8, none⟩ = some (.int .i64 R.at_) := by rw [HB.cell]; rfl
  have p9 : w0.cell? ⟨w.heap.size, 9, none⟩ = some (.int .i64 R.bd) := by rw [HB.cell]; rfl
  have p10 : w0.cell? ⟨w.heap.size, 10, none⟩ = some (.int .i64 R.bt) := by rw [HB.cell]; rfl
  have p11 : w0.cell? ⟨w.heap.size, 11, none⟩ = some (.int .i64 R.cd) := by rw [HB.cell]; rfl
  have p12 : w0.cell? ⟨w.heap.size, 12, none⟩ = some (.int .i64 R.ct) := by rw [HB.cell]; rfl
  have p13 : w0.cell? ⟨w.heap.size, 13, none⟩ = some (.int .i64 R.dd) := by rw [HB.cell]; rfl
  have p14 : w0.cell? ⟨w.heap.size, 14, none⟩ = some (.int .i64 R.dt) := by rw [HB.cell]; rfl
  have p15 : w0.cell? ⟨w.heap.size, 15, none⟩ = some (.int .i64 R.ey) := by rw [HB.cell]; rfl
  have p16 : w0.cell? ⟨w.heap.size, 16, none⟩ = some (.int .i64 R.bo) := by rw [HB.cell]; rfl
  go_wp2_with fail
  go_at_call 97; refine (ownChart_c R.ch A c h0 hn _ (by repeat (with_reducible first | exact HI.out | assumption | refine Ints.drew ?_ | refine Ints.drewN _ ?_ | refine Ints.alloc _ ?_ | refine Ints.step (by assumption) ?_))).mono ?_; rintro e w3 ⟨A3, c3, rfl, hO3, hb3⟩
  have HB4 := Blk.step hb3 HB
  have HT4 := Blk.step hb3 HT
  have hbel4 := Bel.step hb3 hbel0
  have l4 : w.heap.size + 1 < w0.heap.size := HT.lt
  have l5 : w.heap.size + 1 < w3.heap.size := HT4.lt
  have l6 : w.heap.size < w3.heap.size := by omega
  clear hb3 HB HT hbel0 HI p0 p1 p2 p3 p4 p5 p6 p7 p8 p9 p10 p11 p12 p13 p14 p15 p16
  have p0 : w3.cell? ⟨w.heap.size, 0, none⟩ = some (.int .i64 R.ch.dg) := by rw [HB4.cell]; rfl
  have p1 : w3.cell? ⟨w.heap.size, 1, none⟩ = some (.int .i64 R.ch.tn) := by rw [HB4.cell]; rfl
  have p2 : w3.cell? ⟨w.heap.size, 2, none⟩ = some (.string R.ch.nm) := by rw [HB4.cell]; rfl
  have p3 : w3.cell? ⟨w.heap.size, 3, none⟩ = some (.slice A R.ch.zs.length c) := by rw [HB4.cell]; rfl
  have p4 : w3.cell? ⟨w.heap.size, 4, none⟩ = some (.int .i64 R.ch.wd) := by rw [HB4.cell]; rfl
  have p5 : w3.cell? ⟨w.heap.size, 5, none⟩ = some (.int .i64 R.ch.lf) := by rw [HB4.cell]; rfl
  have p6 : w3.cell? ⟨w.heap.size, 6, none⟩ = some (.int .i64 R.ch.rt) := by rw [HB4.cell]; rfl
  have p7 : w3.cell? ⟨w.heap.size, 7, none⟩ = some (.int .i64 R.ad) := by rw [HB4.cell]; rfl
  have p8 : w3.cell? ⟨w.heap.size, 8, none⟩ = some (.int .i64 R.at_) := by rw [HB4.cell]; rfl
  have p9 : w3.cell? ⟨w.heap.size, 9, none⟩ = some (.int .i64 R.bd) := by rw [HB4.cell]; rfl
  have p10 : w3.cell? ⟨w.heap.size, 10, none⟩ = some (.int .i64 R.bt) := by rw [HB4.cell]; rfl
  have p11 : w3.cell? ⟨w.heap.size, 11, none⟩ = some (.int .i64 R.cd) := by rw [HB4.cell]; rfl
  have p12 : w3.cell? ⟨w.heap.size, 12, none⟩ = some (.int .i64 R.ct) := by rw [HB4.cell]; rfl
  have p13 : w3.cell? ⟨w.heap.size, 13, none⟩ = some (.int .i64 R.dd) := by rw [HB4.cell]; rfl
  have p14 : w3.cell? ⟨w.heap.size, 14, none⟩ = some (.int .i64 R.dt) := by rw [HB4.cell]; rfl
  have p15 : w3.cell? ⟨w.heap.size, 15, none⟩ = some (.int .i64 R.ey) := by rw [HB4.cell]; rfl
  have p16 : w3.cell? ⟨w.heap.size, 16, none⟩ = some (.int .i64 R.bo) := by rw [HB4.cell]; rfl
  have f0 := HB4.frozen 0
  have f1 := HB4.frozen 1
  have f2 := HB4.frozen 2
  have f3 := HB4.frozen 3
  have f4 := HB4.frozen 4
  have f5 := HB4.frozen 5
  have f6 := HB4.frozen 6
  go_upto_region 2 with (fail)
  have HB5 : Blk (((((((w3.setCell ⟨w.heap.size, 0, none⟩ (.int .i64 R.ch.dg)).setCell ⟨w.heap.size, 1, none⟩ (.int .i64 R.ch.tn)).setCell ⟨w.heap.size, 2, none⟩ (.string R.ch.nm)).setCell ⟨w.heap.size, 3, none⟩ (.slice A3 R.ch.zs.length c3)).setCell ⟨w.heap.size, 4, none⟩ (.int .i64 R.ch.wd)).setCell ⟨w.heap.size, 5, none⟩ (.int .i64 R.ch.lf)).setCell ⟨w.heap.size, 6, none⟩ (.int .i64 R.ch.rt)) w.heap.size 32 #[.int .i64 R.ch.dg, .int .i64 R.ch.tn, .string R.ch.nm, .slice A3 R.ch.zs.length c3, .int .i64 R.ch.wd, .int .i64 R.ch.lf, .int .i64 R.ch.rt, .int .i64 R.ad, .int .i64 R.at_, .int .i64 R.bd, .int .i64 R.bt, .int .i64 R.cd, .int .i64 R.ct, .int .i64 R.dd, .int .i64 R.dt, .int .i64 R.ey, .int .i64 R.bo] := by simpa using ((((((HB4.set_ 0 (.int .i64 R.ch.dg)).set_ 1 (.int .i64 R.ch.tn)).set_ 2 (.string R.ch.nm)).set_ 3 (.slice A3 R.ch.zs.length c3)).set_ 4 (.int .i64 R.ch.wd)).set_ 5 (.int .i64 R.ch.lf)).set_ 6 (.int .i64 R.ch.rt)
  have HT5 : Blk (((((((w3.setCell ⟨w.heap.size, 0, none⟩ (.int .i64 R.ch.dg)).setCell ⟨w.heap.size, 1, none⟩ (.int .i64 R.ch.tn)).setCell ⟨w.heap.size, 2, none⟩ (.string R.ch.nm)).setCell ⟨w.heap.size, 3, none⟩ (.slice A3 R.ch.zs.length c3)).setCell ⟨w.heap.size, 4, none⟩ (.int .i64 R.ch.wd)).setCell ⟨w.heap.size, 5, none⟩ (.int .i64 R.ch.lf)).setCell ⟨w.heap.size, 6, none⟩ (.int .i64 R.ch.rt)) (w.heap.size + 1) 32 #[.int .i64 0, .int .i64 0, .string ⟨#[]⟩, .slice none 0 0, .int .i64 0, .int .i64 0, .int .i64 0, .int .i64 0, .int .i64 0, .int .i64 0, .int .i64 0, .int .i64 0, .int .i64 0, .int .i64 0, .int .i64 0, .int .i64 0, .int .i64 0] := (by repeat (with_reducible first | exact HT4 | refine Blk.far _ (by first | (simp; done) | (simp; omega)) ?_))
  have hO5 : Own (((((((w3.setCell ⟨w.heap.size, 0, none⟩ (.int .i64 R.ch.dg)).setCell ⟨w.heap.size, 1, none⟩ (.int .i64 R.ch.tn)).setCell ⟨w.heap.size, 2, none⟩ (.string R.ch.nm)).setCell ⟨w.heap.size, 3, none⟩ (.slice A3 R.ch.zs.length c3)).setCell ⟨w.heap.size, 4, none⟩ (.int .i64 R.ch.wd)).setCell ⟨w.heap.size, 5, none⟩ (.int .i64 R.ch.lf)).setCell ⟨w.heap.size, 6, none⟩ (.int .i64 R.ch.rt)) w0.heap.size 2 (.slice A3 R.ch.zs.length c3) R.ch.zs := Own.setCell_lo (Own.setCell_lo (Own.setCell_lo (Own.setCell_lo (Own.setCell_lo (Own.setCell_lo (Own.setCell_lo hO3 (by omega) _) (by omega) _) (by omega) _) (by omega) _) (by omega) _) (by omega) _) (by omega) _
  have hbel5 : Below w.heap.size w (((((((w3.setCell ⟨w.heap.size, 0, none⟩ (.int .i64 R.ch.dg)).setCell ⟨w.heap.size, 1, none⟩ (.int .i64 R.ch.tn)).setCell ⟨w.heap.size, 2, none⟩ (.string R.ch.nm)).setCell ⟨w.heap.size, 3, none⟩ (.slice A3 R.ch.zs.length c3)).setCell ⟨w.heap.size, 4, none⟩ (.int .i64 R.ch.wd)).setCell ⟨w.heap.size, 5, none⟩ (.int .i64 R.ch.lf)).setCell ⟨w.heap.size, 6, none⟩ (.int .i64 R.ch.rt)) := by repeat (with_reducible first | exact Below.refl _ _ | assumption | refine Bel.alloc ?_ _ | refine Bel.step (by assumption) ?_ | refine Below.drew ?_ | refine Bel.drewN ?_ _ | refine Below.setCell ?_ (by first | exact Nat.le_refl _ | omega | (simp; done) | (simp; omega)) _)
  generalize (((((((w3.setCell ⟨w.heap.size, 0, none⟩ (.int .i64 R.ch.dg)).setCell ⟨w.heap.size, 1, none⟩ (.int .i64 R.ch.tn)).setCell ⟨w.heap.size, 2, none⟩ (.string R.ch.nm)).setCell ⟨w.heap.size, 3, none⟩ (.slice A3 R.ch.zs.length c3)).setCell ⟨w.heap.size, 4, none⟩ (.int .i64 R.ch.wd)).setCell ⟨w.heap.size, 5, none⟩ (.int .i64 R.ch.lf)).setCell ⟨w.heap.size, 6, none⟩ (.int .i64 R.ch.rt)) = U at HB5 HT5 hO5 hbel5 ⊢
  clear HB4 HT4 hO3 hbel4 p0 p1 p2 p3 p4 p5 p6 p7 p8 p9 p10 p11 p12 p13 p14 p15 p16 f0 f1 f2 f3 f4 f5 f6
  apply wp_region_lit
  refine wpList_load_blk 32 _ _ HB5 Tryz.underlying32 (by kernel_rfl) rfl rfl rfl ?_
  refine wpList_store_blk (cs := #[.int .i64 R.ch.dg, .int .i64 R.ch.tn, .string R.ch.nm, .slice A3 R.ch.zs.length c3, .int .i64 R.ch.wd, .int .i64 R.ch.lf, .int .i64 R.ch.rt, .int .i64 R.ad, .int .i64 R.at_, .int .i64 R.bd, .int .i64 R.bt, .int .i64 R.cd, .int .i64 R.ct, .int .i64 R.dd, .int .i64 R.dt, .int .i64 R.ey, .int .i64 R.bo]) 32 _ _ _ HT5 (by kernel_rfl) rfl (by simp [Value.oneCell']) rfl rfl rfl rfl ?_
  have hO6 := Own.setRow_lo (g := w.heap.size + 1) hO5 (by omega) #[.int .i64 R.ch.dg, .int .i64 R.ch.tn, .string R.ch.nm, .slice A3 R.ch.zs.length c3, .int .i64 R.ch.wd, .int .i64 R.ch.lf, .int .i64 R.ch.rt, .int .i64 R.ad, .int .i64 R.at_, .int .i64 R.bd, .int .i64 R.bt, .int .i64 R.cd, .int .i64 R.ct, .int .i64 R.dd, .int .i64 R.dt, .int .i64 R.ey, .int .i64 R.bo]
  go_wp2_with fail
  refine bodyPost_ret (results_blk (Blk.setRow #[.int .i64 R.ch.dg, .int .i64 R.ch.tn, .string R.ch.nm, .slice A3 R.ch.zs.length c3, .int .i64 R.ch.wd, .int .i64 R.ch.lf, .int .i64 R.ch.rt, .int .i64 R.ad, .int .i64 R.at_, .int .i64 R.bd, .int .i64 R.bt, .int .i64 R.cd, .int .i64 R.ct, .int .i64 R.dd, .int .i64 R.dt, .int .i64 R.ey, .int .i64 R.bo] HT5) Tryz.underlying32 (by kernel_rfl) rfl rfl) rfl ⟨A3, c3, rfl, Own.ge_mono hO6 (by omega), Bel.setRow hbel5 (by omega) _⟩
set_option maxRecDepth 50000 in
set_option maxHeartbeats 2000000 in
theorem TightenBound_I (R : Re) (A : Option Addr) (c : Nat) (hn : R.ch.zs.length ≤ 1048576) (hm : R.ch.nm.size ≤ 1048576) (w : World) (hA : Ints w A R.ch.zs) :
    Calls Tryz.prog 7 #[.agg #[.int .i64 R.ch.dg, .int .i64 R.ch.tn, .string R.ch.nm, .slice A R.ch.zs.length c, .int .i64 R.ch.wd, .int .i64 R.ch.lf, .int .i64 R.ch.rt, .int .i64 R.ad, .int .i64 R.at_, .int .i64 R.bd, .int .i64 R.bt, .int .i64 R.cd, .int .i64 R.ct, .int .i64 R.dd, .int .i64 R.dt, .int .i64 R.ey, .int .i64 R.bo]] w fun e w' => ∃ A' c', e = .returned (.tuple #[.agg #[.int .i64 (tbV R).ch.dg, .int .i64 (tbV R).ch.tn, .string (tbV R).ch.nm, .slice A' (tbV R).ch.zs.length c', .int .i64 (tbV R).ch.wd, .int .i64 (tbV R).ch.lf, .int .i64 (tbV R).ch.rt, .int .i64 (tbV R).ad, .int .i64 (tbV R).at_, .int .i64 (tbV R).bd, .int .i64 (tbV R).bt, .int .i64 (tbV R).cd, .int .i64 (tbV R).ct, .int .i64 (tbV R).dd, .int .i64 (tbV R).dt, .int .i64 (tbV R).ey, .int .i64 (tbV R).bo], .int .i64 (tbC R)]) ∧ Own w' w.heap.size 2 (.slice A' (tbV R).ch.zs.length c') (tbV R).ch.zs ∧ Below w.heap.size w w' := by
  go_enter Tryz.func7, Tryz.ntmps7
  go_upto_region 1 with (fail)
  have HB : Blk ((w.alloc (.cells #[.int .i64 R.ch.dg, .int .i64 R.ch.tn, .string R.ch.nm, .slice A R.ch.zs.length c, .int .i64 R.ch.wd, .int .i64 R.ch.lf, .int .i64 R.ch.rt, .int .i64 R.ad, .int .i64 R.at_, .int .i64 R.bd, .int .i64 R.bt, .int .i64 R.cd, .int .i64 R.ct, .int .i64 R.dd, .int .i64 R.dt, .int .i64 R.ey, .int .i64 R.bo] 32)).alloc (.cells #[.int .i64 0, .int .i64 0, .string ⟨#[]⟩, .slice none 0 0, .int .i64 0, .int .i64 0, .int .i64 0, .int .i64 0, .int .i64 0, .int .i64 0, .int .i64 0, .int .i64 0, .int .i64 0, .int .i64 0, .int .i64 0, .int .i64 0, .int .i64 0] 32)) (w.heap.size) 32 #[.int .i64 R.ch.dg, .int .i64 R.ch.tn, .string R.ch.nm, .slice A R.ch.zs.length c, .int .i64 R.ch.wd, .int .i64 R.ch.lf, .int .i64 R.ch.rt, .int .i64 R.ad, .int .i64 R.at_, .int .i64 R.bd, .int .i64 R.bt, .int .i64 R.cd, .int .i64 R.ct, .int .i64 R.dd, .int .i64 R.dt, .int .i64 R.ey, .int .i64 R.bo] := Blk.alloc _ (Blk.new _ _ _)
  have HT : Blk ((w.alloc (.cells #[.int .i64 R.ch.dg, .int .i64 R.ch.tn, .string R.ch.nm, .slice A R.ch.zs.length c, .int .i64 R.ch.wd, .int .i64 R.ch.lf, .int .i64 R.ch.rt, .int .i64 R.ad, .int .i64 R.at_, .int .i64 R.bd, .int .i64 R.bt, .int .i64 R.cd, .int .i64 R.ct, .int .i64 R.dd, .int .i64 R.dt, .int .i64 R.ey, .int .i64 R.bo] 32)).alloc (.cells #[.int .i64 0, .int .i64 0, .string ⟨#[]⟩, .slice none 0 0, .int .i64 0, .int .i64 0, .int .i64 0, .int .i64 0, .int .i64 0, .int .i64 0, .int .i64 0, .int .i64 0, .int .i64 0, .int .i64 0, .int .i64 0, .int .i64 0, .int .i64 0] 32)) (w.heap.size + 1) 32 #[.int .i64 0, .int .i64 0, .string ⟨#[]⟩, .slice none 0 0, .int .i64 0, .int .i64 0, .int .i64 0, .int .i64 0, .int .i64 0, .int .i64 0, .int .i64 0, .int .i64 0, .int .i64 0, .int .i64 0, .int .i64 0, .int .i64 0, .int .i64 0] := by have h := Blk.new (w.alloc (.cells #[.int .i64 R.ch.dg, .int .i64 R.ch.tn, .string R.ch.nm, .slice A R.ch.zs.length c, .int .i64 R.ch.wd, .int .i64 R.ch.lf, .int .i64 R.ch.rt, .int .i64 R.ad, .int .i64 R.at_, .int .i64 R.bd, .int .i64 R.bt, .int .i64 R.cd, .int .i64 R.ct, .int .i64 R.dd, .int .i64 R.dt, .int .i64 R.ey, .int .i64 R.bo] 32)) 32 #[.int .i64 0, .int .i64 0, .string ⟨#[]⟩, .slice none 0 0, .int .i64 0, .int .i64 0, .int .i64 0, .int .i64 0, .int .i64 0, .int .i64 0, .int .i64 0, .int .i64 0, .int .i64 0, .int .i64 0, .int .i64 0, .int .i64 0, .int .i64 0]; simp only [World.size_alloc] at h; exact h
  have hbel0 : Below w.heap.size w ((w.alloc (.cells #[.int .i64 R.ch.dg, .int .i64 R.ch.tn, .string R.ch.nm, .slice A R.ch.zs.length c, .int .i64 R.ch.wd, .int .i64 R.ch.lf, .int .i64 R.ch.rt, .int .i64 R.ad, .int .i64 R.at_, .int .i64 R.bd, .int .i64 R.bt, .int .i64 R.cd, .int .i64 R.ct, .int .i64 R.dd, .int .i64 R.dt, .int .i64 R.ey, .int .i64 R.bo] 32)).alloc (.cells #[.int .i64 0, .int .i64 0, .string ⟨#[]⟩, .slice none 0 0, .int .i64 0, .int .i64 0, .int .i64 0, .int .i64 0, .int .i64 0, .int .i64 0, .int .i64 0, .int .i64 0, .int .i64 0, .int .i64 0, .int .i64 0, .int .i64 0, .int .i64 0] 32)) := by repeat (with_reducible first | exact Below.refl _ _ | assumption | refine Bel.alloc ?_ _ | refine Bel.step (by assumption) ?_ | refine Below.drew ?_ | refine Bel.drewN ?_ _ | refine Below.setCell ?_ (by first | exact Nat.le_refl _ | omega | (simp; done) | (simp; omega)) _)
  have HI := Lib.hid (Ints.step hbel0 hA)
  generalize (w.alloc (.cells #[.int .i64 R.ch.dg, .int .i64 R.ch.tn, .string R.ch.nm, .slice A R.ch.zs.length c, .int .i64 R.ch.wd, .int .i64 R.ch.lf, .int .i64 R.ch.rt, .int .i64 R.ad, .int .i64 R.at_, .int .i64 R.bd, .int .i64 R.bt, .int .i64 R.cd, .int .i64 R.ct, .int .i64 R.dd, .int .i64 R.dt, .int .i64 R.ey, .int .i64 R.bo] 32)).alloc (.cells #[.int .i64 0, .int .i64 0, .string ⟨#[]⟩, .slice none 0 0, .int .i64 0, .int .i64 0, .int .i64 0, .int .i64 0, .int .i64 0, .int .i64 0, .int .i64 0, .int .i64 0, .int .i64 0, .int .i64 0, .int .i64 0, .int .i64 0, .int .i64 0] 32) = w0 at HB HT hbel0 HI ⊢
  go_wp2_with (refine wpList_load_blkG 32 _ _ HB Tryz.underlying32 (by kernel_rfl) rfl rfl (by rfl) ?_)
  go_at_call 21; refine (IsRelease_I _ _ _ hn hm _ (by repeat (with_reducible first | exact HI.out | assumption | refine Ints.drew ?_ | refine Ints.drewN _ ?_ | refine Ints.alloc _ ?_ | refine Ints.step (by assumption) ?_))).mono ?_; rintro e w1 ⟨rfl, hb1⟩; obtain ⟨hc1, hf1, hz1⟩ := bel hb1; (try simp only [World.size_drew, World.cell?_drew, World.frozen?_drew, World.heap_drewN, World.cell?_drewN, World.frozen?_drewN] at hc1 hf1 hz1); (try have hl1 : w.heap.size < w1.heap.size := zl hb1); (try have hm1 : w.heap.size + 1 < w1.heap.size := zl hb1); (try have hn1 : w.heap.size + 1 + 1 < w1.heap.size := zl hb1); (try have hp1 : b < w1.heap.size := zl hb1); (try have ho1 : b' < w1.heap.size := by (have hq := hb1.size; (try simp at hq); omega))
  have hbel1 := Bel.step hb1 hbel0
  have HB1 := Blk.step hb1 HB
  have HT1 := Blk.step hb1 HT
  have HI1 := Lib.hid (Ints.step hb1 HI.out)
  clear hb1 hc1 hf1 hz1 HB HT HI hbel0
  cases hx : okRe R
  · have HV := Lib.hid (tb_1 hx)
    clear hx
    go_wp2_with (refine wpList_store_blk (cs := #[.int .i64 0, .int .i64 0, .string ⟨#[]⟩, .slice none 0 0, .int .i64 0, .int .i64 0, .int .i64 0, .int .i64 0, .int .i64 0, .int .i64 0, .int .i64 0, .int .i64 0, .int .i64 0, .int .i64 0, .int .i64 0, .int .i64 0, .int .i64 0]) 32 _ _ _ HT1 (by kernel_rfl) rfl (by simp [Value.oneCell']) rfl rfl rfl rfl ?_)
    refine bodyPost_ret (results_blk2 (Blk.setRow #[.int .i64 0, .int .i64 0, .string ⟨#[]⟩, .slice none 0 0, .int .i64 0, .int .i64 0, .int .i64 0, .int .i64 0, .int .i64 0, .int .i64 0, .int .i64 0, .int .i64 0, .int .i64 0, .int .i64 0, .int .i64 0, .int .i64 0, .int .i64 0] HT1) Tryz.underlying32 (by kernel_rfl) rfl rfl) rfl ⟨none, 0, by rw [HV.out.1, HV.out.2]; rfl, by rw [HV.out.2]; exact Own.nil _ _ _, Bel.setRow hbel1 (by omega) _⟩
  obtain ⟨k1, _, _, _, _, k2, _⟩ := okRe_iff hx
  obtain ⟨e1, e2⟩ := inB_iff.1 k2
  have HK := Lib.hid k1
  have HX := Lib.hid hx
  have h0 := okCh_len k1
  clear hx k1 k2
  go_wp2_with (refine wpList_load_blkG 32 _ _ HB1 Tryz.underlying32 (by kernel_rfl) rfl rfl (by rfl) ?_)
  go_at_call 47; refine (ownRelease_c R A c h0 hn _ (by repeat (with_reducible first | exact HI1.out | assumption | refine Ints.drew ?_ | refine Ints.drewN _ ?_ | refine Ints.alloc _ ?_ | refine Ints.step (by assumption) ?_))).mono ?_; rintro e w2 ⟨A2, c2, rfl, hO2, hb2⟩
  go_upto_region 4 with (refine wpList_store_blk (cs := #[.int .i64 R.ch.dg, .int .i64 R.ch.tn, .string R.ch.nm, .slice A2 R.ch.zs.length c2, .int .i64 R.ch.wd, .int .i64 R.ch.lf, .int .i64 R.ch.rt, .int .i64 R.ad, .int .i64 R.at_, .int .i64 R.bd, .int .i64 R.bt, .int .i64 R.cd, .int .i64 R.ct, .int .i64 R.dd, .int .i64 R.dt, .int .i64 R.ey, .int .i64 R.bo]) 32 _ _ _ (Blk.new _ _ _) (by kernel_rfl) rfl (by simp [Value.oneCell']) rfl rfl rfl rfl ?_)
  rw [World.setRow_alloc_new]
  have HY : Blk (w2.alloc (.cells #[.int .i64 R.ch.dg, .int .i64 R.ch.tn, .string R.ch.nm, .slice A2 R.ch.zs.length c2, .int .i64 R.ch.wd, .int .i64 R.ch.lf, .int .i64 R.ch.rt, .int .i64 R.ad, .int .i64 R.at_, .int .i64 R.bd, .int .i64 R.bt, .int .i64 R.cd, .int .i64 R.ct, .int .i64 R.dd, .int .i64 R.dt, .int .i64 R.ey, .int .i64 R.bo] 32)) w2.heap.size 32 #[.int .i64 R.ch.dg, .int .i64 R.ch.tn, .string R.ch.nm, .slice A2 R.ch.zs.length c2, .int .i64 R.ch.wd, .int .i64 R.ch.lf, .int .i64 R.ch.rt, .int .i64 R.ad, .int .i64 R.at_, .int .i64 R.bd, .int .i64 R.bt, .int .i64 R.cd, .int .i64 R.ct, .int .i64 R.dd, .int .i64 R.dt, .int .i64 R.ey, .int .i64 R.bo] := Blk.new _ _ _
  have HB2 : Blk (w2.alloc (.cells #[.int .i64 R.ch.dg, .int .i64 R.ch.tn, .string R.ch.nm, .slice A2 R.ch.zs.length c2, .int .i64 R.ch.wd, .int .i64 R.ch.lf, .int .i64 R.ch.rt, .int .i64 R.ad, .int .i64 R.at_, .int .i64 R.bd, .int .i64 R.bt, .int .i64 R.cd, .int .i64 R.ct, .int .i64 R.dd, .int .i64 R.dt, .int .i64 R.ey, .int .i64 R.bo] 32)) w.heap.size 32 #[.int .i64 R.ch.dg, .int .i64 R.ch.tn, .string R.ch.nm, .slice A R.ch.zs.length c, .int .i64 R.ch.wd, .int .i64 R.ch.lf, .int .i64 R.ch.rt, .int .i64 R.ad, .int .i64 R.at_, .int .i64 R.bd, .int .i64 R.bt, .int .i64 R.cd, .int .i64 R.ct, .int .i64 R.dd, .int .i64 R.dt, .int .i64 R.ey, .int .i64 R.bo] := Blk.alloc _ (Blk.step hb2 HB1)
  have HT2 : Blk (w2.alloc (.cells #[.int .i64 R.ch.dg, .int .i64 R.ch.tn, .string R.ch.nm, .slice A2 R.ch.zs.length c2, .int .i64 R.ch.wd, .int .i64 R.ch.lf, .int .i64 R.ch.rt, .int .i64 R.ad, .int .i64 R.at_, .int .i64 R.bd, .int .i64 R.bt, .int .i64 R.cd, .int .i64 R.ct, .int .i64 R.dd, .int .i64 R.dt, .int .i64 R.ey, .int .i64 R.bo] 32)) (w.heap.size + 1) 32 #[.int .i64 0, .int .i64 0, .string ⟨#[]⟩, .slice none 0 0, .int .i64 0, .int .i64 0, .int .i64 0, .int .i64 0, .int .i64 0, .int .i64 0, .int .i64 0, .int .i64 0, .int .i64 0, .int .i64 0, .int .i64 0, .int .i64 0, .int .i64 0] := Blk.alloc _ (Blk.step hb2 HT1)
  have HI2 : Hid (Ints (w2.alloc (.cells #[.int .i64 R.ch.dg, .int .i64 R.ch.tn, .string R.ch.nm, .slice A2 R.ch.zs.length c2, .int .i64 R.ch.wd, .int .i64 R.ch.lf, .int .i64 R.ch.rt, .int .i64 R.ad, .int .i64 R.at_, .int .i64 R.bd, .int .i64 R.bt, .int .i64 R.cd, .int .i64 R.ct, .int .i64 R.dd, .int .i64 R.dt, .int .i64 R.ey, .int .i64 R.bo] 32)) A R.ch.zs) := Ints.alloc _ (Ints.step hb2 HI1.out)
  have hO3 : Own (w2.alloc (.cells #[.int .i64 R.ch.dg, .int .i64 R.ch.tn, .string R.ch.nm, .slice A2 R.ch.zs.length c2, .int .i64 R.ch.wd, .int .i64 R.ch.lf, .int .i64 R.ch.rt, .int .i64 R.ad, .int .i64 R.at_, .int .i64 R.bd, .int .i64 R.bt, .int .i64 R.cd, .int .i64 R.ct, .int .i64 R.dd, .int .i64 R.dt, .int .i64 R.ey, .int .i64 R.bo] 32)) w1.heap.size 2 (.slice A2 R.ch.zs.length c2) R.ch.zs := Own.alloc _ hO2
  have hbel2 : Below w.heap.size w (w2.alloc (.cells #[.int .i64 R.ch.dg, .int .i64 R.ch.tn, .string R.ch.nm, .slice A2 R.ch.zs.length c2, .int .i64 R.ch.wd, .int .i64 R.ch.lf, .int .i64 R.ch.rt, .int .i64 R.ad, .int .i64 R.at_, .int .i64 R.bd, .int .i64 R.bt, .int .i64 R.cd, .int .i64 R.ct, .int .i64 R.dd, .int .i64 R.dt, .int .i64 R.ey, .int .i64 R.bo] 32)) := by repeat (with_reducible first | exact Below.refl _ _ | assumption | refine Bel.alloc ?_ _ | refine Bel.step (by assumption) ?_ | refine Below.drew ?_ | refine Bel.drewN ?_ _ | refine Below.setCell ?_ (by first | exact Nat.le_refl _ | omega | (simp; done) | (simp; omega)) _)
  have l1 : w.heap.size + 1 < w1.heap.size := HT1.lt
  have l2 : w1.heap.size ≤ w2.heap.size := hb2.size
  have ne := own_ne_lo hO2 (Nat.le_refl w2.heap.size)
  clear hb2 hO2 HB1 HT1 HI1 hbel1
  generalize w2.alloc (.cells #[.int .i64 R.ch.dg, .int .i64 R.ch.tn, .string R.ch.nm, .slice A2 R.ch.zs.length c2, .int .i64 R.ch.wd, .int .i64 R.ch.lf, .int .i64 R.ch.rt, .int .i64 R.ad, .int .i64 R.at_, .int .i64 R.bd, .int .i64 R.bt, .int .i64 R.cd, .int .i64 R.ct, .int .i64 R.dd, .int .i64 R.dt, .int .i64 R.ey, .int .i64 R.bo] 32) = V at HY HB2 HT2 HI2 hO3 hbel2 ⊢
  generalize w2.heap.size = Y at HY l2 ne ⊢
  have p0 : V.cell? ⟨w.heap.size, 0, none⟩ = some (.int .i64 R.ch.dg) := by rw [HB2.cell]; rfl
  have p1 : V.cell? ⟨w.heap.size, 1, none⟩ = some (.int .i64 R.ch.tn) := by rw [HB2.cell]; rfl
  have p2 : V.cell? ⟨w.heap.size, 2, none⟩ = some (.string R.ch.nm) := by rw [HB2.cell]; rfl
  have p3 : V.cell? ⟨w.heap.size, 3, none⟩ = some (.slice A R.ch.zs.length c) := by rw [HB2.cell]; rfl
  have p4 : V.cell? ⟨w.heap.size, 4, none⟩ = some (.int .i64 R.ch.wd) := by rw [HB2.cell]; rfl
  have p5 : V.cell? ⟨w.heap.size, 5, none⟩ = some (.int .i64 R.ch.lf) := by rw [HB2.cell]; rfl
  have p6 : V.cell? ⟨w.heap.size, 6, none⟩ = some (.int .i64 R.ch.rt) := by rw [HB2.cell]; rfl
  have p7 : V.cell? ⟨w.heap.size, 7, none⟩ = some (.int .i64 R.ad) := by rw [HB2.cell]; rfl
  have p8 : V.cell? ⟨w.heap.size, 8, none⟩ = some (.int .i64 R.at_) := by rw [HB2.cell]; rfl
  have p9 : V.cell? ⟨w.heap.size, 9, none⟩ = some (.int .i64 R.bd) := by rw [HB2.cell]; rfl
  have p10 : V.cell? ⟨w.heap.size, 10, none⟩ = some (.int .i64 R.bt) := by rw [HB2.cell]; rfl
  have p11 : V.cell? ⟨w.heap.size, 11, none⟩ = some (.int .i64 R.cd) := by rw [HB2.cell]; rfl
  have p12 : V.cell? ⟨w.heap.size, 12, none⟩ = some (.int .i64 R.ct) := by rw [HB2.cell]; rfl
  have p13 : V.cell? ⟨w.heap.size, 13, none⟩ = some (.int .i64 R.dd) := by rw [HB2.cell]; rfl
  have p14 : V.cell? ⟨w.heap.size, 14, none⟩ = some (.int .i64 R.dt) := by rw [HB2.cell]; rfl
  have p15 : V.cell? ⟨w.heap.size, 15, none⟩ = some (.int .i64 R.ey) := by rw [HB2.cell]; rfl
  have p16 : V.cell? ⟨w.heap.size, 16, none⟩ = some (.int .i64 R.bo) := by rw [HB2.cell]; rfl
  go_wp2_with fail
  go_at_call 48; refine (safeBound_c _ _ _ _ HK.out e1 e2 _ (by repeat (with_reducible first | exact HI2.out | assumption | refine Ints.drew ?_ | refine Ints.drewN _ ?_ | refine Ints.alloc _ ?_ | refine Ints.step (by assumption) ?_))).mono ?_; rintro e w3 ⟨rfl, hb3⟩; obtain ⟨hc3, hf3, hz3⟩ := bel hb3; (try simp only [World.size_drew, World.cell?_drew, World.frozen?_drew, World.heap_drewN, World.cell?_drewN, World.frozen?_drewN] at hc3 hf3 hz3); (try have hl3 : w.heap.size < w3.heap.size := zl hb3); (try have hm3 : w.heap.size + 1 < w3.heap.size := zl hb3); (try have hn3 : w.heap.size + 1 + 1 < w3.heap.size := zl hb3); (try have hp3 : b < w3.heap.size := zl hb3); (try have ho3 : b' < w3.heap.size := by (have hq := hb3.size; (try simp at hq); omega))
  have HY3 := Blk.step hb3 HY
  have HT3 := Blk.step hb3 HT2
  have hO4 := Own.step hb3 hO3
  have hbel3 := Bel.step hb3 hbel2
  have ly := HY3.lt
  clear hb3 hc3 hf3 hz3 HY HB2 HT2 HI2 hO3 hbel2 p0 p1 p2 p3 p4 p5 p6 p7 p8 p9 p10 p11 p12 p13 p14 p15 p16
  have HVx := Lib.hid (tb_0 HX.out)
  have HWx := Lib.hid (tb_3 HX.out)
  generalize sbV R.ch R.ey = x at *
  have q16 : w3.cell? ⟨Y, 16, none⟩ = some (.int .i64 R.bo) := by rw [HY3.cell]; rfl
  have qf16 := HY3.frozen 16
  go_upto_region 5 with (fail)
  have HY4 : Blk (w3.setCell ⟨Y, 16, none⟩ (.int .i64 x)) Y 32 #[.int .i64 ({ R with bo := x } : Re).ch.dg, .int .i64 ({ R with bo := x } : Re).ch.tn, .string ({ R with bo := x } : Re).ch.nm, .slice A2 ({ R with bo := x } : Re).ch.zs.length c2, .int .i64 ({ R with bo := x } : Re).ch.wd, .int .i64 ({ R with bo := x } : Re).ch.lf, .int .i64 ({ R with bo := x } : Re).ch.rt, .int .i64 ({ R with bo := x } : Re).ad, .int .i64 ({ R with bo := x } : Re).at_, .int .i64 ({ R with bo := x } : Re).bd, .int .i64 ({ R with bo := x } : Re).bt, .int .i64 ({ R with bo := x } : Re).cd, .int .i64 ({ R with bo := x } : Re).ct, .int .i64 ({ R with bo := x } : Re).dd, .int .i64 ({ R with bo := x } : Re).dt, .int .i64 ({ R with bo := x } : Re).ey, .int .i64 ({ R with bo := x } : Re).bo] := by simpa using HY3.set_ 16 (.int .i64 x)
  have HT4 : Blk (w3.setCell ⟨Y, 16, none⟩ (.int .i64 x)) (w.heap.size + 1) 32 #[.int .i64 0, .int .i64 0, .string ⟨#[]⟩, .slice none 0 0, .int .i64 0, .int .i64 0, .int .i64 0, .int .i64 0, .int .i64 0, .int .i64 0, .int .i64 0, .int .i64 0, .int .i64 0, .int .i64 0, .int .i64 0, .int .i64 0, .int .i64 0] := Blk.far _ (by simp; omega) HT3
  have hO5 : Own (w3.setCell ⟨Y, 16, none⟩ (.int .i64 x)) w1.heap.size 2 (.slice A2 R.ch.zs.length c2) R.ch.zs := Own.kept hO4 (grown_set (World.grownBy.refl w3 _) _) ne
  have hbel4 : Below w.heap.size w (w3.setCell ⟨Y, 16, none⟩ (.int .i64 x)) := hbel3.setCell (by simp; omega) _
  generalize w3.setCell ⟨Y, 16, none⟩ (.int .i64 x) = U at HY4 HT4 hO5 hbel4 ⊢
  clear HY3 HT3 hO4 hbel3 q16 qf16
  have q16 : U.cell? ⟨Y, 16, none⟩ = some (.int .i64 x) := by rw [HY4.cell]; rfl
  by_cases hb : x ≤ 1048576
  rotate_left
  · have HV := Lib.hid (HWx.out (by first | exact hb | omega))
    go_wp2_with (refine wpList_store_blk (cs := #[.int .i64 0, .int .i64 0, .string ⟨#[]⟩, .slice none 0 0, .int .i64 0, .int .i64 0, .int .i64 0, .int .i64 0, .int .i64 0, .int .i64 0, .int .i64 0, .int .i64 0, .int .i64 0, .int .i64 0, .int .i64 0, .int .i64 0, .int .i64 0]) 32 _ _ _ HT4 (by kernel_rfl) rfl (by simp [Value.oneCell']) rfl rfl rfl rfl ?_)
    refine bodyPost_ret (results_blk2 (Blk.setRow #[.int .i64 0, .int .i64 0, .string ⟨#[]⟩, .slice none 0 0, .int .i64 0, .int .i64 0, .int .i64 0, .int .i64 0, .int .i64 0, .int .i64 0, .int .i64 0, .int .i64 0, .int .i64 0, .int .i64 0, .int .i64 0, .int .i64 0, .int .i64 0] HT4) Tryz.underlying32 (by kernel_rfl) rfl rfl) rfl ⟨none, 0, by rw [HV.out.1, HV.out.2]; rfl, by rw [HV.out.2]; exact Own.nil _ _ _, Bel.setRow hbel4 (by omega) _⟩
  have HV := Lib.hid (HVx.out hb)
  go_upto_region 7 with (fail)
  apply wp_region_lit
  refine wpList_load_blk 32 _ _ HY4 Tryz.underlying32 (by kernel_rfl) rfl rfl rfl ?_
  refine wpList_store_blk (cs := #[.int .i64 ({ R with bo := x } : Re).ch.dg, .int .i64 ({ R with bo := x } : Re).ch.tn, .string ({ R with bo := x } : Re).ch.nm, .slice A2 ({ R with bo := x } : Re).ch.zs.length c2, .int .i64 ({ R with bo := x } : Re).ch.wd, .int .i64 ({ R with bo := x } : Re).ch.lf, .int .i64 ({ R with bo := x } : Re).ch.rt, .int .i64 ({ R with bo := x } : Re).ad, .int .i64 ({ R with bo := x } : Re).at_, .int .i64 ({ R with bo := x } : Re).bd, .int .i64 ({ R with bo := x } : Re).bt, .int .i64 ({ R with bo := x } : Re).cd, .int .i64 ({ R with bo := x } : Re).ct, .int .i64 ({ R with bo := x } : Re).dd, .int .i64 ({ R with bo := x } : Re).dt, .int .i64 ({ R with bo := x } : Re).ey, .int .i64 ({ R with bo := x } : Re).bo]) 32 _ _ _ HT4 (by kernel_rfl) rfl (by simp [Value.oneCell']) rfl rfl rfl rfl ?_
  have hO6 := Own.setRow_lo (g := w.heap.size + 1) hO5 (by omega) #[.int .i64 ({ R with bo := x } : Re).ch.dg, .int .i64 ({ R with bo := x } : Re).ch.tn, .string ({ R with bo := x } : Re).ch.nm, .slice A2 ({ R with bo := x } : Re).ch.zs.length c2, .int .i64 ({ R with bo := x } : Re).ch.wd, .int .i64 ({ R with bo := x } : Re).ch.lf, .int .i64 ({ R with bo := x } : Re).ch.rt, .int .i64 ({ R with bo := x } : Re).ad, .int .i64 ({ R with bo := x } : Re).at_, .int .i64 ({ R with bo := x } : Re).bd, .int .i64 ({ R with bo := x } : Re).bt, .int .i64 ({ R with bo := x } : Re).cd, .int .i64 ({ R with bo := x } : Re).ct, .int .i64 ({ R with bo := x } : Re).dd, .int .i64 ({ R with bo := x } : Re).dt, .int .i64 ({ R with bo := x } : Re).ey, .int .i64 ({ R with bo := x } : Re).bo]
  go_wp2_with fail
  refine bodyPost_ret (results_blk2 (Blk.setRow #[.int .i64 ({ R with bo := x } : Re).ch.dg, .int .i64 ({ R with bo := x } : Re).ch.tn, .string ({ R with bo := x } : Re).ch.nm, .slice A2 ({ R with bo := x } : Re).ch.zs.length c2, .int .i64 ({ R with bo := x } : Re).ch.wd, .int .i64 ({ R with bo := x } : Re).ch.lf, .int .i64 ({ R with bo := x } : Re).ch.rt, .int .i64 ({ R with bo := x } : Re).ad, .int .i64 ({ R with bo := x } : Re).at_, .int .i64 ({ R with bo := x } : Re).bd, .int .i64 ({ R with bo := x } : Re).bt, .int .i64 ({ R with bo := x } : Re).cd, .int .i64 ({ R with bo := x } : Re).ct, .int .i64 ({ R with bo := x } : Re).dd, .int .i64 ({ R with bo := x } : Re).dt, .int .i64 ({ R with bo := x } : Re).ey, .int .i64 ({ R with bo := x } : Re).bo] HT4) Tryz.underlying32 (by kernel_rfl) rfl rfl) rfl ⟨A2, c2, by rw [HV.out.1, HV.out.2]; rfl, by rw [HV.out.2]; exact Own.ge_mono hO6 (by omega), Bel.setRow hbel4 (by omega) _⟩
end Go.Proofs.YtpmcgicopogbhaaGreat
