/- Chapter 27: widest ranges. Conditions: as stated at each contract. -/
import Derived.Test.YtpmcgicopogbhaaGreatProg
import Derived.Test.YtpmcgicopogbhaaGreatBase
import Derived.Test.YtpmcgicopogbhaaGreatZy
import Derived.Test.YtpmcgicopogbhaaGreatRw
import Derived.Test.YtpmcgicopogbhaaGreatRg
import Derived.Test.YtpmcgicopogbhaaGreatRq
import Derived.Test.YtpmcgicopogbhaaGreatL01
import Derived.Test.YtpmcgicopogbhaaGreatCp
import Derived.Test.YtpmcgicopogbhaaGreatCm
import Derived.Test.YtpmcgicopogbhaaGreatL18
import Derived.Test.YtpmcgicopogbhaaGreatL23
import Derived.Test.YtpmcgicopogbhaaGreatL23b
import Derived.Test.YtpmcgicopogbhaaGreatL03
import Derived.Test.YtpmcgicopogbhaaGreatL23d
import Derived.Test.YtpmcgicopogbhaaGreatL23e
import Derived.Test.YtpmcgicopogbhaaGreatL24
import Derived.Test.YtpmcgicopogbhaaGreatL24b
import Derived.Test.YtpmcgicopogbhaaGreatL23g
import Derived.Test.YtpmcgicopogbhaaGreatL23h
import Derived.Test.YtpmcgicopogbhaaGreatL27o
import Derived.Test.YtpmcgicopogbhaaGreatL27a
import Derived.Test.YtpmcgicopogbhaaGreatL27b
import Derived.Test.YtpmcgicopogbhaaGreatL27v
import Derived.WalkKit
import Derived.WalkSpells
import Derived.WalkLawsBesides
import Derived.Lib.Hide
import Derived.Deep.QuietTactic
import Derived.BigQuiet
import Derived.Deep.Draws
import Derived.Deep.RegionHeld3
import Derived.Deep.Cut
import Derived.Deep.WholeRow
namespace Go.Proofs.YtpmcgicopogbhaaGreat
open Go.RowKit
set_option linter.unusedVariables false
set_option linter.unusedSimpArgs false
def wrR (R : Re) (hd ht : Int) : Re := { R with bd := hd, bt := ht }
def wrC (R : Re) (hd ht : Int) : Int := if (okRe R && okF hd ht) = true then (if okRe (wrR R hd ht) = true then 0 else 5) else 1
def wrV (R : Re) (hd ht : Int) : Re := if wrC R hd ht = 0 then wrR R hd ht else ZR
theorem wr_1 {R : Re} {hd ht : Int} (h : (okRe R && okF hd ht) = false) : wrC R hd ht = 1 ∧ wrV R hd ht = ZR := by
  have : wrC R hd ht = 1 := by simp [wrC, h]
  exact ⟨this, by simp [wrV, this]⟩
theorem wr_5 {R : Re} {hd ht : Int} (h : (okRe R && okF hd ht) = true) (h1 : okRe (wrR R hd ht) = false) : wrC R hd ht = 5 ∧ wrV R hd ht = ZR := by
  have : wrC R hd ht = 5 := by simp only [wrC, h, h1, if_true]; rfl
  exact ⟨this, by simp [wrV, this]⟩
theorem wr_0 {R : Re} {hd ht : Int} (h : (okRe R && okF hd ht) = true) (h1 : okRe (wrR R hd ht) = true) : wrC R hd ht = 0 ∧ wrV R hd ht = wrR R hd ht := by
  have : wrC R hd ht = 0 := by simp [wrC, h, h1]
  exact ⟨this, by simp [wrV, this]⟩
set_option maxRecDepth 50000 in
set_option maxHeartbeats 2000000 in
theorem WidestRange_S (R : Re) (A : Option Addr) (c : Nat) (hd ht : Int) (hn : R.ch.zs.length ≤ 1048576) (hm : R.ch.nm.size ≤ 1048576) (w : World) (hA : Ints w A R.ch.zs) :
    Calls Tryz.prog 19 #[.agg #[.int .i64 R.ch.dg, .int .i64 R.ch.tn, .string R.ch.nm, .slice A R.ch.zs.length c, .int .i64 R.ch.wd, .int .i64 R.ch.lf, .int .i64 R.ch.rt, .int .i64 R.ad, .int .i64 R.at_, .int .i64 R.bd, .int .i64 R.bt, .int .i64 R.cd, .int .i64 R.ct, .int .i64 R.dd, .int .i64 R.dt, .int .i64 R.ey, .int .i64 R.bo], .agg #[.int .i64 hd, .int .i64 ht]] w fun e w' => ∃ A' c', e = .returned (.tuple #[.agg #[.int .i64 (wrV R hd ht).ch.dg, .int .i64 (wrV R hd ht).ch.tn, .string (wrV R hd ht).ch.nm, .slice A' (wrV R hd ht).ch.zs.length c', .int .i64 (wrV R hd ht).ch.wd, .int .i64 (wrV R hd ht).ch.lf, .int .i64 (wrV R hd ht).ch.rt, .int .i64 (wrV R hd ht).ad, .int .i64 (wrV R hd ht).at_, .int .i64 (wrV R hd ht).bd, .int .i64 (wrV R hd ht).bt, .int .i64 (wrV R hd ht).cd, .int .i64 (wrV R hd ht).ct, .int .i64 (wrV R hd ht).dd, .int .i64 (wrV R hd ht).dt, .int .i64 (wrV R hd ht).ey, .int .i64 (wrV R hd ht).bo], .int .i64 (wrC R hd ht)]) ∧ Own w' w.heap.size 2 (.slice A' (wrV R hd ht).ch.zs.length c') (wrV R hd ht).ch.zs ∧ Below w.heap.size w w' := by
  go_enter Tryz.func19, Tryz.ntmps19
  go_upto_region 1 with (fail)
  have HB : Blk (((w.alloc (.cells #[.int .i64 R.ch.dg, .int .i64 R.ch.tn, .string R.ch.nm, .slice A R.ch.zs.length c, .int .i64 R.ch.wd, .int .i64 R.ch.lf, .int .i64 R.ch.rt, .int .i64 R.ad, .int .i64 R.at_, .int .i64 R.bd, .int .i64 R.bt, .int .i64 R.cd, .int .i64 R.ct, .int .i64 R.dd, .int .i64 R.dt, .int .i64 R.ey, .int .i64 R.bo] 32)).alloc (.cells #[.int .i64 hd, .int .i64 ht] 25)).alloc (.cells #[.int .i64 0, .int .i64 0, .string ⟨#[]⟩, .slice none 0 0, .int .i64 0, .int .i64 0, .int .i64 0, .int .i64 0, .int .i64 0, .int .i64 0, .int .i64 0, .int .i64 0, .int .i64 0, .int .i64 0, .int .i64 0, .int .i64 0, .int .i64 0] 32)) (w.heap.size) 32 #[.int .i64 R.ch.dg, .int .i64 R.ch.tn, .string R.ch.nm, .slice A R.ch.zs.length c, .int .i64 R.ch.wd, .int .i64 R.ch.lf, .int .i64 R.ch.rt, .int .i64 R.ad, .int .i64 R.at_, .int .i64 R.bd, .int .i64 R.bt, .int .i64 R.cd, .int .i64 R.ct, .int .i64 R.dd, .int .i64 R.dt, .int .i64 R.ey, .int .i64 R.bo] := Blk.alloc _ (Blk.alloc _ (Blk.new _ _ _))
  have HF : Blk (((w.alloc (.cells #[.int .i64 R.ch.dg, .int .i64 R.ch.tn, .string R.ch.nm, .slice A R.ch.zs.length c, .int .i64 R.ch.wd, .int .i64 R.ch.lf, .int .i64 R.ch.rt, .int .i64 R.ad, .int .i64 R.at_, .int .i64 R.bd, .int .i64 R.bt, .int .i64 R.cd, .int .i64 R.ct, .int .i64 R.dd, .int .i64 R.dt, .int .i64 R.ey, .int .i64 R.bo] 32)).alloc (.cells #[.int .i64 hd, .int .i64 ht] 25)).alloc (.cells #[.int .i64 0, .int .i64 0, .string ⟨#[]⟩, .slice none 0 0, .int .i64 0, .int .i64 0, .int .i64 0, .int .i64 0, .int .i64 0, .int .i64 0, .int .i64 0, .int .i64 0, .int .i64 0, .int .i64 0, .int .i64 0, .int .i64 0, .int .i64 0] 32)) (w.heap.size + 1) 25 #[.int .i64 hd, .int .i64 ht] := Blk.alloc _ (by have h := Blk.new (w.alloc (.cells #[.int .i64 R.ch.dg, .int .i64 R.ch.tn, .string R.ch.nm, .slice A R.ch.zs.length c, .int .i64 R.ch.wd, .int .i64 R.ch.lf, .int .i64 R.ch.rt, .int .i64 R.ad, .int .i64 R.at_, .int .i64 R.bd, .int .i64 R.bt, .int .i64 R.cd, .int .i64 R.ct, .int .i64 R.dd, .int .i64 R.dt, .int .i64 R.ey, .int .i64 R.bo] 32)) 25 #[.int .i64 hd, .int .i64 ht]; simp only [World.size_alloc] at h; exact h)
  have HT : Blk (((w.alloc (.cells #[.int .i64 R.ch.dg, .int .i64 R.ch.tn, .string R.ch.nm, .slice A R.ch.zs.length c, .int .i64 R.ch.wd, .int .i64 R.ch.lf, .int .i64 R.ch.rt, .int .i64 R.ad, .int .i64 R.at_, .int .i64 R.bd, .int .i64 R.bt, .int .i64 R.cd, .int .i64 R.ct, .int .i64 R.dd, .int .i64 R.dt, .int .i64 R.ey, .int .i64 R.bo] 32)).alloc (.cells #[.int .i64 hd, .int .i64 ht] 25)).alloc (.cells #[.int .i64 0, .int .i64 0, .string ⟨#[]⟩, .slice none 0 0, .int .i64 0, .int .i64 0, .int .i64 0, .int .i64 0, .int .i64 0, .int .i64 0, .int .i64 0, .int .i64 0, .int .i64 0, .int .i64 0, .int .i64 0, .int .i64 0, .int .i64 0] 32)) (w.heap.size + 1 + 1) 32 #[.int .i64 0, .int .i64 0, .string ⟨#[]⟩, .slice none 0 0, .int .i64 0, .int .i64 0, .int .i64 0, .int .i64 0, .int .i64 0, .int .i64 0, .int .i64 0, .int .i64 0, .int .i64 0, .int .i64 0, .int .i64 0, .int .i64 0, .int .i64 0] := by have h := Blk.new ((w.alloc (.cells #[.int .i64 R.ch.dg, .int .i64 R.ch.tn, .string R.ch.nm, .slice A R.ch.zs.length c, .int .i64 R.ch.wd, .int .i64 R.ch.lf, .int .i64 R.ch.rt, .int .i64 R.ad, .int .i64 R.at_, .int .i64 R.bd, .int .i64 R.bt, .int .i64 R.cd, .int .i64 R.ct, .int .i64 R.dd, .int .i64 R.dt, .int .i64 R.ey, .int .i64 R.bo] 32)).alloc (.cells #[.int .i64 hd, .int .i64 ht] 25)) 32 #[.int .i64 0, .int .i64 0, .string ⟨#[]⟩, .slice none 0 0, .int .i64 0, .int .i64 0, .int .i64 0, .int .i64 0, .int .i64 0, .int .i64 0, .int .i64 0, .int .i64 0, .int .i64 0, .int .i64 0, .int .i64 0, .int .i64 0, .int .i64 0]; simp only [World.size_alloc] at h; exact h
  have hbel0 : Below w.heap.size w (((w.alloc (.cells #[.int .i64 R.ch.dg, .int .i64 R.ch.tn, .string R.ch.nm, .slice A R.ch.zs.length c, .int .i64 R.ch.wd, .int .i64 R.ch.lf, .int .i64 R.ch.rt, .int .i64 R.ad, .int .i64 R.at_, .int .i64 R.bd, .int .i64 R.bt, .int .i64 R.cd, .int .i64 R.ct, .int .i64 R.dd, .int .i64 R.dt, .int .i64 R.ey, .int .i64 R.bo] 32)).alloc (.cells #[.int .i64 hd, .int .i64 ht] 25)).alloc (.cells #[.int .i64 0, .int .i64 0, .string ⟨#[]⟩, .slice none 0 0, .int .i64 0, .int .i64 0, .int .i64 0, .int .i64 0, .int .i64 0, .int .i64 0, .int .i64 0, .int .i64 0, .int .i64 0, .int .i64 0, .int .i64 0, .int .i64 0, .int .i64 0] 32)) := by repeat (with_reducible first | exact Below.refl _ _ | assumption | refine Bel.alloc ?_ _ | refine Bel.step (by assumption) ?_ | refine Below.drew ?_ | refine Bel.drewN ?_ _ | refine Below.setCell ?_ (by first | exact Nat.le_refl _ | omega | (simp; done) | (simp; omega)) _)
  have HI := Lib.hid (Ints.step hbel0 hA)
  generalize ((w.alloc (.cells #[.int .i64 R.ch.dg, .int .i64 R.ch.tn, .string R.ch.nm, .slice A R.ch.zs.length c, .int .i64 R.ch.wd, .int .i64 R.ch.lf, .int .i64 R.ch.rt, .int .i64 R.ad, .int .i64 R.at_, .int .i64 R.bd, .int .i64 R.bt, .int .i64 R.cd, .int .i64 R.ct, .int .i64 R.dd, .int .i64 R.dt, .int .i64 R.ey, .int .i64 R.bo] 32)).alloc (.cells #[.int .i64 hd, .int .i64 ht] 25)).alloc (.cells #[.int .i64 0, .int .i64 0, .string ⟨#[]⟩, .slice none 0 0, .int .i64 0, .int .i64 0, .int .i64 0, .int .i64 0, .int .i64 0, .int .i64 0, .int .i64 0, .int .i64 0, .int .i64 0, .int .i64 0, .int .i64 0, .int .i64 0, .int .i64 0] 32) = w0 at HB HF HT hbel0 HI ⊢
  go_wp2_with (refine wpList_load_blkG 32 _ _ HB Tryz.underlying32 (by kernel_rfl) rfl rfl (by rfl) ?_)
  go_at_call 22; refine (IsRelease_S _ _ _ hn hm _ (by repeat (with_reducible first | exact HI.out | assumption | refine Ints.drew ?_ | refine Ints.drewN _ ?_ | refine Ints.alloc _ ?_ | refine Ints.step (by assumption) ?_))).mono ?_; rintro e w1 ⟨rfl, hb1⟩; obtain ⟨hc1, hf1, hz1⟩ := bel hb1; (try simp only [World.size_drew, World.cell?_drew, World.frozen?_drew, World.heap_drewN, World.cell?_drewN, World.frozen?_drewN] at hc1 hf1 hz1); (try have hl1 : w.heap.size < w1.heap.size := zl hb1); (try have hm1 : w.heap.size + 1 < w1.heap.size := zl hb1); (try have hn1 : w.heap.size + 1 + 1 < w1.heap.size := zl hb1); (try have hp1 : b < w1.heap.size := zl hb1); (try have ho1 : b' < w1.heap.size := by (have hq := hb1.size; (try simp at hq); omega))
  have hbel1 := Bel.step hb1 hbel0
  have HB1 := Blk.step hb1 HB
  have HF1 := Blk.step hb1 HF
  have HT1 := Blk.step hb1 HT
  have HI1 := Lib.hid (Ints.step hb1 HI.out)
  clear hb1 hc1 hf1 hz1 HB HF HT HI hbel0
  cases hx : okRe R
  · have HV := Lib.hid (wr_1 (R := R) (hd := hd) (ht := ht) (by rw [hx]; rfl))
    clear hx
    go_wp2_with (refine wpList_store_blk (cs := #[.int .i64 0, .int .i64 0, .string ⟨#[]⟩, .slice none 0 0, .int .i64 0, .int .i64 0, .int .i64 0, .int .i64 0, .int .i64 0, .int .i64 0, .int .i64 0, .int .i64 0, .int .i64 0, .int .i64 0, .int .i64 0, .int .i64 0, .int .i64 0]) 32 _ _ _ HT1 (by kernel_rfl) rfl (by simp [Value.oneCell']) rfl rfl rfl rfl ?_)
    refine bodyPost_ret (results_blk2 (Blk.setRow #[.int .i64 0, .int .i64 0, .string ⟨#[]⟩, .slice none 0 0, .int .i64 0, .int .i64 0, .int .i64 0, .int .i64 0, .int .i64 0, .int .i64 0, .int .i64 0, .int .i64 0, .int .i64 0, .int .i64 0, .int .i64 0, .int .i64 0, .int .i64 0] HT1) Tryz.underlying32 (by kernel_rfl) rfl rfl) rfl ⟨none, 0, by rw [HV.out.1, HV.out.2]; rfl, by rw [HV.out.2]; exact Own.nil _ _ _, Bel.setRow hbel1 (by omega) _⟩
  have HX := Lib.hid hx
  have u0 : w1.cell? ⟨w.heap.size + 1, 0, none⟩ = some (.int .i64 hd) := by rw [HF1.cell]; rfl
  have u1 : w1.cell? ⟨w.heap.size + 1, 1, none⟩ = some (.int .i64 ht) := by rw [HF1.cell]; rfl
  clear hx
  go_wp2_with fail
  go_at_call 68; refine (IsFigure_S _ _ _).mono ?_; rintro e w2 ⟨rfl, hb2⟩; obtain ⟨hc2, hf2, hz2⟩ := bel hb2; (try simp only [World.size_drew, World.cell?_drew, World.frozen?_drew, World.heap_drewN, World.cell?_drewN, World.frozen?_drewN] at hc2 hf2 hz2); (try have hl2 : w.heap.size < w2.heap.size := zl hb2); (try have hm2 : w.heap.size + 1 < w2.heap.size := zl hb2); (try have hn2 : w.heap.size + 1 + 1 < w2.heap.size := zl hb2); (try have hp2 : b < w2.heap.size := zl hb2); (try have ho2 : b' < w2.heap.size := by (have hq := hb2.size; (try simp at hq); omega))
  have hbel2 := Bel.step hb2 hbel1
  have HB2 := Blk.step hb2 HB1
  have HF2 := Blk.step hb2 HF1
  have HT2 := Blk.step hb2 HT1
  have HI2 := Lib.hid (Ints.step hb2 HI1.out)
  clear hb2 hc2 hf2 hz2 HB1 HF1 HT1 HI1 hbel1 u0 u1
  cases hy : okF hd ht
  · have HV := Lib.hid (wr_1 (R := R) (hd := hd) (ht := ht) (by rw [hy, Bool.and_false]))
    clear hy
    go_wp2_with (refine wpList_store_blk (cs := #[.int .i64 0, .int .i64 0, .string ⟨#[]⟩, .slice none 0 0, .int .i64 0, .int .i64 0, .int .i64 0, .int .i64 0, .int .i64 0, .int .i64 0, .int .i64 0, .int .i64 0, .int .i64 0, .int .i64 0, .int .i64 0, .int .i64 0, .int .i64 0]) 32 _ _ _ HT2 (by kernel_rfl) rfl (by simp [Value.oneCell']) rfl rfl rfl rfl ?_)
    refine bodyPost_ret (results_blk2 (Blk.setRow #[.int .i64 0, .int .i64 0, .string ⟨#[]⟩, .slice none 0 0, .int .i64 0, .int .i64 0, .int .i64 0, .int .i64 0, .int .i64 0, .int .i64 0, .int .i64 0, .int .i64 0, .int .i64 0, .int .i64 0, .int .i64 0, .int .i64 0, .int .i64 0] HT2) Tryz.underlying32 (by kernel_rfl) rfl rfl) rfl ⟨none, 0, by rw [HV.out.1, HV.out.2]; rfl, by rw [HV.out.2]; exact Own.nil _ _ _, Bel.setRow hbel2 (by omega) _⟩
  have HY := Lib.hid (show (okRe R && okF hd ht) = true by rw [HX.out, hy]; rfl)
  have h0 := okCh_len (okRe_iff HX.out).1
  have u0 : w2.cell? ⟨w.heap.size + 1, 0, none⟩ = some (.int .i64 hd) := by rw [HF2.cell]; rfl
  have u1 : w2.cell? ⟨w.heap.size + 1, 1, none⟩ = some (.int .i64 ht) := by rw [HF2.cell]; rfl
  clear hy
  have q9 : w2.cell? ⟨w.heap.size, 9, none⟩ = some (.int .i64 R.bd) := by rw [HB2.cell]; rfl
  have q10 : w2.cell? ⟨w.heap.size, 10, none⟩ = some (.int .i64 R.bt) := by rw [HB2.cell]; rfl
  have qf9 := HB2.frozen 9
  have qf10 := HB2.frozen 10
  go_upto_region 4 with (fail)
  have HB3 : Blk ((w2.setCell ⟨w.heap.size, 9, none⟩ (.int .i64 hd)).setCell ⟨w.heap.size, 10, none⟩ (.int .i64 ht)) w.heap.size 32 #[.int .i64 (wrR R hd ht).ch.dg, .int .i64 (wrR R hd ht).ch.tn, .string (wrR R hd ht).ch.nm, .slice A (wrR R hd ht).ch.zs.length c, .int .i64 (wrR R hd ht).ch.wd, .int .i64 (wrR R hd ht).ch.lf, .int .i64 (wrR R hd ht).ch.rt, .int .i64 (wrR R hd ht).ad, .int .i64 (wrR R hd ht).at_, .int .i64 (wrR R hd ht).bd, .int .i64 (wrR R hd ht).bt, .int .i64 (wrR R hd ht).cd, .int .i64 (wrR R hd ht).ct, .int .i64 (wrR R hd ht).dd, .int .i64 (wrR R hd ht).dt, .int .i64 (wrR R hd ht).ey, .int .i64 (wrR R hd ht).bo] := by simpa [wrR] using (HB2.set_ 9 (.int .i64 hd)).set_ 10 (.int .i64 ht)
  have HT3 : Blk ((w2.setCell ⟨w.heap.size, 9, none⟩ (.int .i64 hd)).setCell ⟨w.heap.size, 10, none⟩ (.int .i64 ht)) (w.heap.size + 1 + 1) 32 #[.int .i64 0, .int .i64 0, .string ⟨#[]⟩, .slice none 0 0, .int .i64 0, .int .i64 0, .int .i64 0, .int .i64 0, .int .i64 0, .int .i64 0, .int .i64 0, .int .i64 0, .int .i64 0, .int .i64 0, .int .i64 0, .int .i64 0, .int .i64 0] := (by repeat (with_reducible first | exact HT2 | refine Blk.far _ (by first | (simp; done) | (simp; omega)) ?_))
  have hbel3 : Below w.heap.size w ((w2.setCell ⟨w.heap.size, 9, none⟩ (.int .i64 hd)).setCell ⟨w.heap.size, 10, none⟩ (.int .i64 ht)) := by repeat (with_reducible first | exact Below.refl _ _ | assumption | refine Bel.alloc ?_ _ | refine Bel.step (by assumption) ?_ | refine Below.drew ?_ | refine Bel.drewN ?_ _ | refine Below.setCell ?_ (by first | exact Nat.le_refl _ | omega | (simp; done) | (simp; omega)) _)
  generalize (w2.setCell ⟨w.heap.size, 9, none⟩ (.int .i64 hd)).setCell ⟨w.heap.size, 10, none⟩ (.int .i64 ht) = V at HB3 HT3 hbel3 ⊢
  have HI3 := Lib.hid (Ints.step hbel3 hA)
  clear HB2 HF2 HT2 HI2 hbel2 u0 u1 q9 q10 qf9 qf10
  go_wp2_with (refine wpList_load_blkG 32 _ _ HB3 Tryz.underlying32 (by kernel_rfl) rfl rfl (by rfl) ?_)
  go_at_call 22; refine (IsRelease_S (wrR R hd ht) A c hn hm _ HI3.out).mono ?_; rintro e w3 ⟨rfl, hb3⟩; obtain ⟨hc3, hf3, hz3⟩ := bel hb3; (try simp only [World.size_drew, World.cell?_drew, World.frozen?_drew, World.heap_drewN, World.cell?_drewN, World.frozen?_drewN] at hc3 hf3 hz3); (try have hl3 : w.heap.size < w3.heap.size := zl hb3); (try have hm3 : w.heap.size + 1 < w3.heap.size := zl hb3); (try have hn3 : w.heap.size + 1 + 1 < w3.heap.size := zl hb3); (try have hp3 : b < w3.heap.size := zl hb3); (try have ho3 : b' < w3.heap.size := by (have hq := hb3.size; (try simp at hq); omega))
  have hbel4 := Bel.step hb3 hbel3
  have HB4 := Blk.step hb3 HB3
  have HT4 := Blk.step hb3 HT3
  have HI4 := Lib.hid (Ints.step hb3 HI3.out)
  clear hb3 hc3 hf3 hz3 HB3 HT3 HI3 hbel3
  cases hz : okRe (wrR R hd ht)
  · have HV := Lib.hid (wr_5 HY.out hz)
    clear hz
    go_wp2_with (refine wpList_store_blk (cs := #[.int .i64 0, .int .i64 0, .string ⟨#[]⟩, .slice none 0 0, .int .i64 0, .int .i64 0, .int .i64 0, .int .i64 0, .int .i64 0, .int .i64 0, .int .i64 0, .int .i64 0, .int .i64 0, .int .i64 0, .int .i64 0, .int .i64 0, .int .i64 0]) 32 _ _ _ HT4 (by kernel_rfl) rfl (by simp [Value.oneCell']) rfl rfl rfl rfl ?_)
    refine bodyPost_ret (results_blk2 (Blk.setRow #[.int .i64 0, .int .i64 0, .string ⟨#[]⟩, .slice none 0 0, .int .i64 0, .int .i64 0, .int .i64 0, .int .i64 0, .int .i64 0, .int .i64 0, .int .i64 0, .int .i64 0, .int .i64 0, .int .i64 0, .int .i64 0, .int .i64 0, .int .i64 0] HT4) Tryz.underlying32 (by kernel_rfl) rfl rfl) rfl ⟨none, 0, by rw [HV.out.1, HV.out.2]; rfl, by rw [HV.out.2]; exact Own.nil _ _ _, Bel.setRow hbel4 (by omega) _⟩
  have HV := Lib.hid (wr_0 HY.out hz)
  clear hz
  have r0 : w3.cell? ⟨w.heap.size, 0, none⟩ = some (.int .i64 R.ch.dg) := by rw [HB4.cell]; rfl
  have r1 : w3.cell? ⟨w.heap.size, 1, none⟩ = some (.int .i64 R.ch.tn) := by rw [HB4.cell]; rfl
  have r2 : w3.cell? ⟨w.heap.size, 2, none⟩ = some (.string R.ch.nm) := by rw [HB4.cell]; rfl
  have r3 : w3.cell? ⟨w.heap.size, 3, none⟩ = some (.slice A R.ch.zs.length c) := by rw [HB4.cell]; rfl
  go_wp2_with fail
  go_at_call 50; refine (l18Own_c R.ch A c h0 hn _ (by repeat (with_reducible first | exact HI4.out | assumption | refine Ints.drew ?_ | refine Ints.drewN _ ?_ | refine Ints.alloc _ ?_ | refine Ints.step (by assumption) ?_))).mono ?_; rintro e w4 ⟨A3, c3, rfl, hO3, hb4⟩
  have HB5 := Blk.step hb4 HB4
  have HT5 := Blk.step hb4 HT4
  have hbel5 := Bel.step hb4 hbel4
  have l4 : w.heap.size + 1 + 1 < w3.heap.size := HT4.lt
  have l5 : w.heap.size + 1 + 1 < w4.heap.size := HT5.lt
  have l6 : w.heap.size < w4.heap.size := by omega
  clear hb4 HB4 HT4 hbel4 HI4 r0 r1 r2 r3
  have r0 : w4.cell? ⟨w.heap.size, 0, none⟩ = some (.int .i64 R.ch.dg) := by rw [HB5.cell]; rfl
  have r1 : w4.cell? ⟨w.heap.size, 1, none⟩ = some (.int .i64 R.ch.tn) := by rw [HB5.cell]; rfl
  have r2 : w4.cell? ⟨w.heap.size, 2, none⟩ = some (.string R.ch.nm) := by rw [HB5.cell]; rfl
  have r3 : w4.cell? ⟨w.heap.size, 3, none⟩ = some (.slice A R.ch.zs.length c) := by rw [HB5.cell]; rfl
  have f0 := HB5.frozen 0
  have f1 := HB5.frozen 1
  have f2 := HB5.frozen 2
  have f3 := HB5.frozen 3
  go_upto_region 7 with (fail)
  have HB6 : Blk ((((w4.setCell ⟨w.heap.size, 0, none⟩ (.int .i64 R.ch.dg)).setCell ⟨w.heap.size, 1, none⟩ (.int .i64 R.ch.tn)).setCell ⟨w.heap.size, 2, none⟩ (.string R.ch.nm)).setCell ⟨w.heap.size, 3, none⟩ (.slice A3 R.ch.zs.length c3)) w.heap.size 32 #[.int .i64 (wrR R hd ht).ch.dg, .int .i64 (wrR R hd ht).ch.tn, .string (wrR R hd ht).ch.nm, .slice A3 (wrR R hd ht).ch.zs.length c3, .int .i64 (wrR R hd ht).ch.wd, .int .i64 (wrR R hd ht).ch.lf, .int .i64 (wrR R hd ht).ch.rt, .int .i64 (wrR R hd ht).ad, .int .i64 (wrR R hd ht).at_, .int .i64 (wrR R hd ht).bd, .int .i64 (wrR R hd ht).bt, .int .i64 (wrR R hd ht).cd, .int .i64 (wrR R hd ht).ct, .int .i64 (wrR R hd ht).dd, .int .i64 (wrR R hd ht).dt, .int .i64 (wrR R hd ht).ey, .int .i64 (wrR R hd ht).bo] := by simpa [wrR] using (((HB5.set_ 0 (.int .i64 R.ch.dg)).set_ 1 (.int .i64 R.ch.tn)).set_ 2 (.string R.ch.nm)).set_ 3 (.slice A3 R.ch.zs.length c3)
  have HT6 : Blk ((((w4.setCell ⟨w.heap.size, 0, none⟩ (.int .i64 R.ch.dg)).setCell ⟨w.heap.size, 1, none⟩ (.int .i64 R.ch.tn)).setCell ⟨w.heap.size, 2, none⟩ (.string R.ch.nm)).setCell ⟨w.heap.size, 3, none⟩ (.slice A3 R.ch.zs.length c3)) (w.heap.size + 1 + 1) 32 #[.int .i64 0, .int .i64 0, .string ⟨#[]⟩, .slice none 0 0, .int .i64 0, .int .i64 0, .int .i64 0, .int .i64 0, .int .i64 0, .int .i64 0, .int .i64 0, .int .i64 0, .int .i64 0, .int .i64 0, .int .i64 0, .int .i64 0, .int .i64 0] := (by repeat (with_reducible first | exact HT5 | refine Blk.far _ (by first | (simp; done) | (simp; omega)) ?_))
  have hO6 : Own ((((w4.setCell ⟨w.heap.size, 0, none⟩ (.int .i64 R.ch.dg)).setCell ⟨w.heap.size, 1, none⟩ (.int .i64 R.ch.tn)).setCell ⟨w.heap.size, 2, none⟩ (.string R.ch.nm)).setCell ⟨w.heap.size, 3, none⟩ (.slice A3 R.ch.zs.length c3)) w3.heap.size 2 (.slice A3 R.ch.zs.length c3) R.ch.zs := Own.setCell_lo (Own.setCell_lo (Own.setCell_lo (Own.setCell_lo hO3 (by omega) _) (by omega) _) (by omega) _) (by omega) _
  have hbel6 : Below w.heap.size w ((((w4.setCell ⟨w.heap.size, 0, none⟩ (.int .i64 R.ch.dg)).setCell ⟨w.heap.size, 1, none⟩ (.int .i64 R.ch.tn)).setCell ⟨w.heap.size, 2, none⟩ (.string R.ch.nm)).setCell ⟨w.heap.size, 3, none⟩ (.slice A3 R.ch.zs.length c3)) := by repeat (with_reducible first | exact Below.refl _ _ | assumption | refine Bel.alloc ?_ _ | refine Bel.step (by assumption) ?_ | refine Below.drew ?_ | refine Bel.drewN ?_ _ | refine Below.setCell ?_ (by first | exact Nat.le_refl _ | omega | (simp; done) | (simp; omega)) _)
  generalize ((((w4.setCell ⟨w.heap.size, 0, none⟩ (.int .i64 R.ch.dg)).setCell ⟨w.heap.size, 1, none⟩ (.int .i64 R.ch.tn)).setCell ⟨w.heap.size, 2, none⟩ (.string R.ch.nm)).setCell ⟨w.heap.size, 3, none⟩ (.slice A3 R.ch.zs.length c3)) = U at HB6 HT6 hO6 hbel6 ⊢
  clear HB5 HT5 hO3 hbel5 r0 r1 r2 r3 f0 f1 f2 f3
  apply wp_region_lit
  refine wpList_load_blk 32 _ _ HB6 Tryz.underlying32 (by kernel_rfl) rfl rfl rfl ?_
  refine wpList_store_blk (cs := #[.int .i64 (wrR R hd ht).ch.dg, .int .i64 (wrR R hd ht).ch.tn, .string (wrR R hd ht).ch.nm, .slice A3 (wrR R hd ht).ch.zs.length c3, .int .i64 (wrR R hd ht).ch.wd, .int .i64 (wrR R hd ht).ch.lf, .int .i64 (wrR R hd ht).ch.rt, .int .i64 (wrR R hd ht).ad, .int .i64 (wrR R hd ht).at_, .int .i64 (wrR R hd ht).bd, .int .i64 (wrR R hd ht).bt, .int .i64 (wrR R hd ht).cd, .int .i64 (wrR R hd ht).ct, .int .i64 (wrR R hd ht).dd, .int .i64 (wrR R hd ht).dt, .int .i64 (wrR R hd ht).ey, .int .i64 (wrR R hd ht).bo]) 32 _ _ _ HT6 (by kernel_rfl) rfl (by simp [Value.oneCell']) rfl rfl rfl rfl ?_
  have hO7 := Own.setRow_lo (g := w.heap.size + 1 + 1) hO6 (by omega) #[.int .i64 (wrR R hd ht).ch.dg, .int .i64 (wrR R hd ht).ch.tn, .string (wrR R hd ht).ch.nm, .slice A3 (wrR R hd ht).ch.zs.length c3, .int .i64 (wrR R hd ht).ch.wd, .int .i64 (wrR R hd ht).ch.lf, .int .i64 (wrR R hd ht).ch.rt, .int .i64 (wrR R hd ht).ad, .int .i64 (wrR R hd ht).at_, .int .i64 (wrR R hd ht).bd, .int .i64 (wrR R hd ht).bt, .int .i64 (wrR R hd ht).cd, .int .i64 (wrR R hd ht).ct, .int .i64 (wrR R hd ht).dd, .int .i64 (wrR R hd ht).dt, .int .i64 (wrR R hd ht).ey, .int .i64 (wrR R hd ht).bo]
  go_wp2_with fail
  refine bodyPost_ret (results_blk2 (Blk.setRow #[.int .i64 (wrR R hd ht).ch.dg, .int .i64 (wrR R hd ht).ch.tn, .string (wrR R hd ht).ch.nm, .slice A3 (wrR R hd ht).ch.zs.length c3, .int .i64 (wrR R hd ht).ch.wd, .int .i64 (wrR R hd ht).ch.lf, .int .i64 (wrR R hd ht).ch.rt, .int .i64 (wrR R hd ht).ad, .int .i64 (wrR R hd ht).at_, .int .i64 (wrR R hd ht).bd, .int .i64 (wrR R hd ht).bt, .int .i64 (wrR R hd ht).cd, .int .i64 (wrR R hd ht).ct, .int .i64 (wrR R hd ht).dd, .int .i64 (wrR R hd ht).dt, .int .i64 (wrR R hd ht).ey, .int .i64 (wrR R hd ht).bo] HT6) Tryz.underlying32 (by kernel_rfl) rfl rfl) rfl ⟨A3, c3, by rw [HV.out.1, HV.out.2]; rfl, by rw [HV.out.2]; exact Own.ge_mono hO7 (by omega), Bel.setRow hbel6 (by omega) _⟩
set_option maxRecDepth 50000 in
set_option maxHeartbeats 2000000 in
theorem WidestRange_I (R : Re) (A : Option Addr) (c : Nat) (hd ht : Int) (hn : R.ch.zs.length ≤ 1048576) (hm : R.ch.nm.size ≤ 1048576) (w : World) (hA : Ints w A R.ch.zs) :
    Calls Tryz.prog 18 #[.agg #[.int .i64 R.ch.dg, .int .i64 R.ch.tn, .string R.ch.nm, .slice A R.ch.zs.length c, .int .i64 R.ch.wd, .int .i64 R.ch.lf, .int .i64 R.ch.rt, .int .i64 R.ad, .int .i64 R.at_, .int .i64 R.bd, .int .i64 R.bt, .int .i64 R.cd, .int .i64 R.ct, .int .i64 R.dd, .int .i64 R.dt, .int .i64 R.ey, .int .i64 R.bo], .agg #[.int .i64 hd, .int .i64 ht]] w fun e w' => ∃ A' c', e = .returned (.tuple #[.agg #[.int .i64 (wrV R hd ht).ch.dg, .int .i64 (wrV R hd ht).ch.tn, .string (wrV R hd ht).ch.nm, .slice A' (wrV R hd ht).ch.zs.length c', .int .i64 (wrV R hd ht).ch.wd, .int .i64 (wrV R hd ht).ch.lf, .int .i64 (wrV R hd ht).ch.rt, .int .i64 (wrV R hd ht).ad, .int .i64 (wrV R hd ht).at_, .int .i64 (wrV R hd ht).bd, .int .i64 (wrV R hd ht).bt, .int .i64 (wrV R hd ht).cd, .int .i64 (wrV R hd ht).ct, .int .i64 (wrV R hd ht).dd, .int .i64 (wrV R hd ht).dt, .int .i64 (wrV R hd ht).ey, .int .i64 (wrV R hd ht).bo], .int .i64 (wrC R hd ht)]) ∧ Own w' w.heap.size 2 (.slice A' (wrV R hd ht).ch.zs.length c') (wrV R hd ht).ch.zs ∧ Below w.heap.size w w' := by
  go_enter Tryz.func18, Tryz.ntmps18
  go_upto_region 1 with (fail)
  have HB : Blk (((w.alloc (.cells #[.int .i64 R.ch.dg, .int .i64 R.ch.tn, .string R.ch.nm, .slice A R.ch.zs.length c, .int .i64 R.ch.wd, .int .i64 R.ch.lf, .int .i64 R.ch.rt, .int .i64 R.ad, .int .i64 R.at_, .int .i64 R.bd, .int .i64 R.bt, .int .i64 R.cd, .int .i64 R.ct, .int .i64 R.dd, .int .i64 R.dt, .int .i64 R.ey, .int .i64 R.bo] 32)).alloc (.cells #[.int .i64 hd, .int .i64 ht] 25)).alloc (.cells #[.int .i64 0, .int .i64 0, .string ⟨#[]⟩, .slice none 0 0, .int .i64 0, .int .i64 0, .int .i64 0, .int .i64 0, .int .i64 0, .int .i64 0, .int .i64 0, .int .i64 0, .int .i64 0, .int .i64 0, .int .i64 0, .int .i64 0, .int .i64 0] 32)) (w.heap.size) 32 #[.int .i64 R.ch.dg, .int .i64 R.ch.tn, .string R.ch.nm, .slice A R.ch.zs.length c, .int .i64 R.ch.wd, .int .i64 R.ch.lf, .int .i64 R.ch.rt, .int .i64 R.ad, .int .i64 R.at_, .int .i64 R.bd, .int .i64 R.bt, .int .i64 R.cd, .int .i64 R.ct, .int .i64 R.dd, .int .i64 R.dt, .int .i64 R.ey, .int .i64 R.bo] := Blk.alloc _ (Blk.alloc _ (Blk.new _ _ _))
  have HF : Blk (((w.alloc (.cells #[.int .i64 R.ch.dg, .int .i64 R.ch.tn, .string R.ch.nm, .slice A R.ch.zs.length c, .int .i64 R.ch.wd, .int .i64 R.ch.lf, .int .i64 R.ch.rt, .int .i64 R.ad, .int .i64 R.at_, .int .i64 R.bd, .int .i64 R.bt, .int .i64 R.cd, .int .i64 R.ct, .int .i64 R.dd, .int .i64 R.dt, .int .i64 R.ey, .int .i64 R.bo] 32)).alloc (.cells #[.int .i64 hd, .int .i64 ht] 25)).alloc (.cells #[.int .i64 0, .int .i64 0, .string ⟨#[]⟩, .slice none 0 0, .int .i64 0, .int .i64 0, .int .i64 0, .int .i64 0, .int .i64 0, .int .i64 0, .int .i64 0, .int .i64 0, .int .i64 0, .int .i64 0, .int .i64 0, .int .i64 0, .int .i64 0] 32)) (w.heap.size + 1) 25 #[.int .i64 hd, .int .i64 ht] := Blk.alloc _ (by have h := Blk.new (w.alloc (.cells #[.int .i64 R.ch.dg, .int .i64 R.ch.tn, .string R.ch.nm, .slice A R.ch.zs.length c, .int .i64 R.ch.wd, .int .i64 R.ch.lf, .int .i64 R.ch.rt, .int .i64 R.ad, .int .i64 R.at_, .int .i64 R.bd, .int .i64 R.bt, .int .i64 R.cd, .int .i64 R.ct, .int .i64 R.dd, .int .i64 R.dt, .int .i64 R.ey, .int .i64 R.bo] 32)) 25 #[.int .i64 hd, .int .i64 ht]; simp only [World.size_alloc] at h; exact h)
  have HT : Blk (((w.alloc (.cells #[.int .i64 R.ch.dg, .int .i64 R.ch.tn, .string R.ch.nm, .slice A R.ch.zs.length c, .int .i64 R.ch.wd, .int .i64 R.ch.lf, .int .i64 R.ch.rt, .int .i64 R.ad, .int .i64 R.at_, .int .i64 R.bd, .int .i64 R.bt, .int .i64 R.cd, .int .i64 R.ct, .int .i64 R.dd, .int .i64 R.dt, .int .i64 R.ey, .int .i64 R.bo] 32)).alloc (.cells #[.int .i64 hd, .int .i64 ht] 25)).alloc (.cells #[.int .i64 0, .int .i64 0, .string ⟨#[]⟩, .slice none 0 0, .int .i64 0, .int .i64 0, .int .i64 0, .int .i64 0, .int .i64 0, .int .i64 0, .int .i64 0, .int .i64 0, .int .i64 0, .int .i64 0, .int .i64 0, .int .i64 0, .int .i64 0] 32)) (w.heap.size + 1 + 1) 32 #[.int .i64 0, .int .i64 0, .string ⟨#[]⟩, .slice none 0 0, .int .i64 0, .int .i64 0, .int .i64 0, .int .i64 0, .int .i64 0, .int .i64 0, .int .i64 0, .int .i64 0, .int .i64 0, .int .i64 0, .int .i64 0, .int .i64 0, .int .i64 0] := by have h := Blk.new ((w.alloc (.cells #[.int .i64 R.ch.dg, .int .i64 R.ch.tn, .string R.ch.nm, .slice A R.ch.zs.length c, .int .i64 R.ch.wd, .int .i64 R.ch.lf, .int .i64 R.ch.rt, .int .i64 R.ad, .int .i64 R.at_, .int .i64 R.bd, .int .i64 R.bt, .int .i64 R.cd, .int .i64 R.ct, .int .i64 R.dd, .int .i64 R.dt, .int .i64 R.ey, .int .i64 R.bo] 32)).alloc (.cells #[.int .i64 hd, .int .i64 ht] 25)) 32 #[.int .i64 0, .int .i64 0, .string ⟨#[]⟩, .slice none 0 0, .int .i64 0, .int .i64 0, .int .i64 0, .int .i64 0, .int .i64 0, .int .i64 0, .int .i64 0, .int .i64 0, .int .i64 0, .int .i64 0, .int .i64 0, .int .i64 0, .int .i64 0]; simp only [World.size_alloc] at h; exact h
  have hbel0 : Below w.heap.size w (((w.alloc (.cells #[.int .i64 R.ch.dg, .int .i64 R.ch.tn, .string R.ch.nm, .slice A R.ch.zs.length c, .int .i64 R.ch.wd, .int .i64 R.ch.lf, .int .i64 R.ch.rt, .int .i64 R.ad, .int .i64 R.at_, .int .i64 R.bd, .int .i64 R.bt, .int .i64 R.cd, .int .i64 R.ct, .int .i64 R.dd, .int .i64 R.dt, .int .i64 R.ey, .int .i64 R.bo] 32)).alloc (.cells #[.int .i64 hd, .int .i64 ht] 25)).alloc (.cells #[.int .i64 0, .int .i64 0, .string ⟨#[]⟩, .slice none 0 0, .int .i64 0, .int .i64 0, .int .i64 0, .int .i64 0, .int .i64 0, .int .i64 0, .int .i64 0, .int .i64 0, .int .i64 0, .int .i64 0, .int .i64 0, .int .i64 0, .int .i64 0] 32)) := by repeat (with_reducible first | exact Below.refl _ _ | assumption | refine Bel.alloc ?_ _ | refine Bel.step (by assumption) ?_ | refine Below.drew ?_ | refine Bel.drewN ?_ _ | refine Below.setCell ?_ (by first | exact Nat.le_refl _ | omega | (simp; done) | (simp; omega)) _)
  have HI := Lib.hid (Ints.step hbel0 hA)
  generalize ((w.alloc (.cells #[.int .i64 R.ch.dg, .int .i64 R.ch.tn, .string R.ch.nm, .slice A R.ch.zs.length c, .int .i64 R.ch.wd, .int .i64 R.ch.lf, .int .i64 R.ch.rt, .int .i64 R.ad, .int .i64 R.at_, .int .i64 R.bd, .int .i64 R.bt, .int .i64 R.cd, .int .i64 R.ct, .int .i64 R.dd, .int .i64 R.dt, .int .i64 R.ey, .int .i64 R.bo] 32)).alloc (.cells #[.int .i64 hd, .int .i64 ht] 25)).alloc (.cells #[.int .i64 0, .int .i64 0, .string ⟨#[]⟩, .slice none 0 0, .int .i64 0, .int .i64 0, .int .i64 0, .int .i64 0, .int .i64 0, .int .i64 0, .int .i64 0, .int .i64 0, .int .i64 0, .int .i64 0, .int .i64 0, .int .i64 0, .int .i64 0] 32) = w0 at HB HF HT hbel0 HI ⊢
  go_wp2_with (refine wpList_load_blkG 32 _ _ HB Tryz.underlying32 (by kernel_rfl) rfl rfl (by rfl) ?_)
  go_at_call 21; refine (IsRelease_I _ _ _ hn hm _ (by repeat (with_reducible first | exact HI.out | assumption | refine Ints.drew ?_ | refine Ints.drewN _ ?_ | refine Ints.alloc _ ?_ | refine Ints.step (by assumption) ?_))).mono ?_; rintro e w1 ⟨rfl, hb1⟩; obtain ⟨hc1, hf1, hz1⟩ := bel hb1; (try simp only [World.size_drew, World.cell?_drew, World.frozen?_drew, World.heap_drewN, World.cell?_drewN, World.frozen?_drewN] at hc1 hf1 hz1); (try have hl1 : w.heap.size < w1.heap.size := zl hb1); (try have hm1 : w.heap.size + 1 < w1.heap.size := zl hb1); (try have hn1 : w.heap.size + 1 + 1 < w1.heap.size := zl hb1); (try have hp1 : b < w1.heap.size := zl hb1); (try have ho1 : b' < w1.heap.size := by (have hq := hb1.size; (try simp at hq); omega))
  have hbel1 := Bel.step hb1 hbel0
  have HB1 := Blk.step hb1 HB
  have HF1 := Blk.step hb1 HF
  have HT1 := Blk.step hb1 HT
  have HI1 := Lib.hid (Ints.step hb1 HI.out)
  clear hb1 hc1 hf1 hz1 HB HF HT HI hbel0
  cases hx : okRe R
  · have HV := Lib.hid (wr_1 (R := R) (hd := hd) (ht := ht) (by rw [hx]; rfl))
    clear hx
    go_wp2_with (refine wpList_store_blk (cs := #[.int .i64 0, .int .i64 0, .string ⟨#[]⟩, .slice none 0 0, .int .i64 0, .int .i64 0, .int .i64 0, .int .i64 0, .int .i64 0, .int .i64 0, .int .i64 0, .int .i64 0, .int .i64 0, .int .i64 0, .int .i64 0, .int .i64 0, .int .i64 0]) 32 _ _ _ HT1 (by kernel_rfl) rfl (by simp [Value.oneCell']) rfl rfl rfl rfl ?_)
    refine bodyPost_ret (results_blk2 (Blk.setRow #[.int .i64 0, .int .i64 0, .string ⟨#[]⟩, .slice none 0 0, .int .i64 0, .int .i64 0, .int .i64 0, .int .i64 0, .int .i64 0, .int .i64 0, .int .i64 0, .int .i64 0, .int .i64 0, .int .i64 0, .int .i64 0, .int .i64 0, .int .i64 0] HT1) Tryz.underlying32 (by kernel_rfl) rfl rfl) rfl ⟨none, 0, by rw [HV.out.1, HV.out.2]; rfl, by rw [HV.out.2]; exact Own.nil _ _ _, Bel.setRow hbel1 (by omega) _⟩
  have HX := Lib.hid hx
  have u0 : w1.cell? ⟨w.heap.size + 1, 0, none⟩ = some (.int .i64 hd) := by rw [HF1.cell]; rfl
  have u1 : w1.cell? ⟨w.heap.size + 1, 1, none⟩ = some (.int .i64 ht) := by rw [HF1.cell]; rfl
  clear hx
  go_wp2_with fail
  go_at_call 67; refine (IsFigure_I _ _ _).mono ?_; rintro e w2 ⟨rfl, hb2⟩; obtain ⟨hc2, hf2, hz2⟩ := bel hb2; (try simp only [World.size_drew, World.cell?_drew, World.frozen?_drew, World.heap_drewN, World.cell?_drewN, World.frozen?_drewN] at hc2 hf2 hz2); (try have hl2 : w.heap.size < w2.heap.size := zl hb2); (try have hm2 : w.heap.size + 1 < w2.heap.size := zl hb2); (try have hn2 : w.heap.size + 1 + 1 < w2.heap.size := zl hb2); (try have hp2 : b < w2.heap.size := zl hb2); (try have ho2 : b' < w2.heap.size := by (have hq := hb2.size; (try simp at hq); omega))
  have hbel2 := Bel.step hb2 hbel1
  have HB2 := Blk.step hb2 HB1
  have HF2 := Blk.step hb2 HF1
  have HT2 := Blk.step hb2 HT1
  have HI2 := Lib.hid (Ints.step hb2 HI1.out)
  clear hb2 hc2 hf2 hz2 HB1 HF1 HT1 HI1 hbel1 u0 u1
  cases hy : okF hd ht
  · have HV := Lib.hid (wr_1 (R := R) (hd := hd) (ht := ht) (by rw [hy, Bool.and_false]))
    clear hy
    go_wp2_with (refine wpList_store_blk (cs := #[.int .i64 0, .int .i64 0, .string ⟨#[]⟩, .slice none 0 0, .int .i64 0, .int .i64 0, .int .i64 0, .int .i64 0, .int .i64 0, .int .i64 0, .int .i64 0, .int .i64 0, .int .i64 0, .int .i64 0, .int .i64 0, .int .i64 0, .int .i64 0]) 32 _ _ _ HT2 (by kernel_rfl) rfl (by simp [Value.oneCell']) rfl rfl rfl rfl ?_)
    refine bodyPost_ret (results_blk2 (Blk.setRow #[.int .i64 0, .int .i64 0, .string ⟨#[]⟩, .slice none 0 0, .int .i64 0, .int .i64 0, .int .i64 0, .int .i64 0, .int .i64 0, .int .i64 0, .int .i64 0, .int .i64 0, .int .i64 0, .int .i64 0, .int .i64 0, .int .i64 0, .int .i64 0] HT2) Tryz.underlying32 (by kernel_rfl) rfl rfl) rfl ⟨none, 0, by rw [HV.out.1, HV.out.2]; rfl, by rw [HV.out.2]; exact Own.nil _ _ _, Bel.setRow hbel2 (by omega) _⟩
  have HY := Lib.hid (show (okRe R && okF hd ht) = true by rw [HX.out, hy]; rfl)
  have h0 := okCh_len (okRe_iff HX.out).1
  have u0 : w2.cell? ⟨w.heap.size + 1, 0, none⟩ = some (.int .i64 hd) := by rw [HF2.cell]; rfl
  have u1 : w2.cell? ⟨w.heap.size + 1, 1, none⟩ = some (.int .i64 ht) := by rw [HF2.cell]; rfl
  clear hy
  go_wp2_with (refine wpList_load_blkG 32 _ _ HB2 Tryz.underlying32 (by kernel_rfl) rfl rfl (by rfl) ?_)
  go_at_call 47; refine (ownRelease_c R A c h0 hn _ (by repeat (with_reducible first | exact HI2.out | assumption | refine Ints.drew ?_ | refine Ints.drewN _ ?_ | refine Ints.alloc _ ?_ | refine Ints.step (by assumption) ?_))).mono ?_; rintro e w3 ⟨A2, c2, rfl, hO2, hb3⟩
  go_upto_region 4 with (refine wpList_store_blk (cs := #[.int .i64 R.ch.dg, .int .i64 R.ch.tn, .string R.ch.nm, .slice A2 R.ch.zs.length c2, .int .i64 R.ch.wd, .int .i64 R.ch.lf, .int .i64 R.ch.rt, .int .i64 R.ad, .int .i64 R.at_, .int .i64 R.bd, .int .i64 R.bt, .int .i64 R.cd, .int .i64 R.ct, .int .i64 R.dd, .int .i64 R.dt, .int .i64 R.ey, .int .i64 R.bo]) 32 _ _ _ (Blk.new _ _ _) (by kernel_rfl) rfl (by simp [Value.oneCell']) rfl rfl rfl rfl ?_)
  rw [World.setRow_alloc_new]
  have HY3 : Blk (w3.alloc (.cells #[.int .i64 R.ch.dg, .int .i64 R.ch.tn, .string R.ch.nm, .slice A2 R.ch.zs.length c2, .int .i64 R.ch.wd, .int .i64 R.ch.lf, .int .i64 R.ch.rt, .int .i64 R.ad, .int .i64 R.at_, .int .i64 R.bd, .int .i64 R.bt, .int .i64 R.cd, .int .i64 R.ct, .int .i64 R.dd, .int .i64 R.dt, .int .i64 R.ey, .int .i64 R.bo] 32)) w3.heap.size 32 #[.int .i64 R.ch.dg, .int .i64 R.ch.tn, .string R.ch.nm, .slice A2 R.ch.zs.length c2, .int .i64 R.ch.wd, .int .i64 R.ch.lf, .int .i64 R.ch.rt, .int .i64 R.ad, .int .i64 R.at_, .int .i64 R.bd, .int .i64 R.bt, .int .i64 R.cd, .int .i64 R.ct, .int .i64 R.dd, .int .i64 R.dt, .int .i64 R.ey, .int .i64 R.bo] := Blk.new _ _ _
  have HF3 : Blk (w3.alloc (.cells #[.int .i64 R.ch.dg, .int .i64 R.ch.tn, .string R.ch.nm, .slice A2 R.ch.zs.length c2, .int .i64 R.ch.wd, .int .i64 R.ch.lf, .int .i64 R.ch.rt, .int .i64 R.ad, .int .i64 R.at_, .int .i64 R.bd, .int .i64 R.bt, .int .i64 R.cd, .int .i64 R.ct, .int .i64 R.dd, .int .i64 R.dt, .int .i64 R.ey, .int .i64 R.bo] 32)) (w.heap.size + 1) 25 #[.int .i64 hd, .int .i64 ht] := Blk.alloc _ (Blk.step hb3 HF2)
  have HT3 : Blk (w3.alloc (.cells #[.int .i64 R.ch.dg, .int .i64 R.ch.tn, .string R.ch.nm, .slice A2 R.ch.zs.length c2, .int .i64 R.ch.wd, .int .i64 R.ch.lf, .int .i64 R.ch.rt, .int .i64 R.ad, .int .i64 R.at_, .int .i64 R.bd, .int .i64 R.bt, .int .i64 R.cd, .int .i64 R.ct, .int .i64 R.dd, .int .i64 R.dt, .int .i64 R.ey, .int .i64 R.bo] 32)) (w.heap.size + 1 + 1) 32 #[.int .i64 0, .int .i64 0, .string ⟨#[]⟩, .slice none 0 0, .int .i64 0, .int .i64 0, .int .i64 0, .int .i64 0, .int .i64 0, .int .i64 0, .int .i64 0, .int .i64 0, .int .i64 0, .int .i64 0, .int .i64 0, .int .i64 0, .int .i64 0] := Blk.alloc _ (Blk.step hb3 HT2)
  have hO3 : Own (w3.alloc (.cells #[.int .i64 R.ch.dg, .int .i64 R.ch.tn, .string R.ch.nm, .slice A2 R.ch.zs.length c2, .int .i64 R.ch.wd, .int .i64 R.ch.lf, .int .i64 R.ch.rt, .int .i64 R.ad, .int .i64 R.at_, .int .i64 R.bd, .int .i64 R.bt, .int .i64 R.cd, .int .i64 R.ct, .int .i64 R.dd, .int .i64 R.dt, .int .i64 R.ey, .int .i64 R.bo] 32)) w2.heap.size 2 (.slice A2 R.ch.zs.length c2) R.ch.zs := Own.alloc _ hO2
  have hbel3 : Below w.heap.size w (w3.alloc (.cells #[.int .i64 R.ch.dg, .int .i64 R.ch.tn, .string R.ch.nm, .slice A2 R.ch.zs.length c2, .int .i64 R.ch.wd, .int .i64 R.ch.lf, .int .i64 R.ch.rt, .int .i64 R.ad, .int .i64 R.at_, .int .i64 R.bd, .int .i64 R.bt, .int .i64 R.cd, .int .i64 R.ct, .int .i64 R.dd, .int .i64 R.dt, .int .i64 R.ey, .int .i64 R.bo] 32)) := by repeat (with_reducible first | exact Below.refl _ _ | assumption | refine Bel.alloc ?_ _ | refine Bel.step (by assumption) ?_ | refine Below.drew ?_ | refine Bel.drewN ?_ _ | refine Below.setCell ?_ (by first | exact Nat.le_refl _ | omega | (simp; done) | (simp; omega)) _)
  have l1 : w.heap.size + 1 + 1 < w2.heap.size := HT2.lt
  have l2 : w2.heap.size ≤ w3.heap.size := hb3.size
  have ne := own_ne_lo hO2 (Nat.le_refl w3.heap.size)
  clear hb3 hO2 HB2 HF2 HT2 HI2 hbel2 u0 u1
  generalize w3.alloc (.cells #[.int .i64 R.ch.dg, .int .i64 R.ch.tn, .string R.ch.nm, .slice A2 R.ch.zs.length c2, .int .i64 R.ch.wd, .int .i64 R.ch.lf, .int .i64 R.ch.rt, .int .i64 R.ad, .int .i64 R.at_, .int .i64 R.bd, .int .i64 R.bt, .int .i64 R.cd, .int .i64 R.ct, .int .i64 R.dd, .int .i64 R.dt, .int .i64 R.ey, .int .i64 R.bo] 32) = V at HY3 HF3 HT3 hO3 hbel3 ⊢
  generalize w3.heap.size = Y at HY3 l2 ne ⊢
  have u0 : V.cell? ⟨w.heap.size + 1, 0, none⟩ = some (.int .i64 hd) := by rw [HF3.cell]; rfl
  have u1 : V.cell? ⟨w.heap.size + 1, 1, none⟩ = some (.int .i64 ht) := by rw [HF3.cell]; rfl
  have q9 : V.cell? ⟨Y, 9, none⟩ = some (.int .i64 R.bd) := by rw [HY3.cell]; rfl
  have q10 : V.cell? ⟨Y, 10, none⟩ = some (.int .i64 R.bt) := by rw [HY3.cell]; rfl
  have qf9 := HY3.frozen 9
  have qf10 := HY3.frozen 10
  go_upto_region 5 with (fail)
  have HY4 : Blk ((V.setCell ⟨Y, 9, none⟩ (.int .i64 hd)).setCell ⟨Y, 10, none⟩ (.int .i64 ht)) Y 32 #[.int .i64 (wrR R hd ht).ch.dg, .int .i64 (wrR R hd ht).ch.tn, .string (wrR R hd ht).ch.nm, .slice A2 (wrR R hd ht).ch.zs.length c2, .int .i64 (wrR R hd ht).ch.wd, .int .i64 (wrR R hd ht).ch.lf, .int .i64 (wrR R hd ht).ch.rt, .int .i64 (wrR R hd ht).ad, .int .i64 (wrR R hd ht).at_, .int .i64 (wrR R hd ht).bd, .int .i64 (wrR R hd ht).bt, .int .i64 (wrR R hd ht).cd, .int .i64 (wrR R hd ht).ct, .int .i64 (wrR R hd ht).dd, .int .i64 (wrR R hd ht).dt, .int .i64 (wrR R hd ht).ey, .int .i64 (wrR R hd ht).bo] := by simpa [wrR] using (HY3.set_ 9 (.int .i64 hd)).set_ 10 (.int .i64 ht)
  have HT4 : Blk ((V.setCell ⟨Y, 9, none⟩ (.int .i64 hd)).setCell ⟨Y, 10, none⟩ (.int .i64 ht)) (w.heap.size + 1 + 1) 32 #[.int .i64 0, .int .i64 0, .string ⟨#[]⟩, .slice none 0 0, .int .i64 0, .int .i64 0, .int .i64 0, .int .i64 0, .int .i64 0, .int .i64 0, .int .i64 0, .int .i64 0, .int .i64 0, .int .i64 0, .int .i64 0, .int .i64 0, .int .i64 0] := Blk.far _ (by simp; omega) (Blk.far _ (by simp; omega) HT3)
  have hO4 : Own ((V.setCell ⟨Y, 9, none⟩ (.int .i64 hd)).setCell ⟨Y, 10, none⟩ (.int .i64 ht)) w2.heap.size 2 (.slice A2 R.ch.zs.length c2) R.ch.zs := Own.kept hO3 (grown_set (grown_set (World.grownBy.refl V _) _) _) ne
  have hbel4 : Below w.heap.size w ((V.setCell ⟨Y, 9, none⟩ (.int .i64 hd)).setCell ⟨Y, 10, none⟩ (.int .i64 ht)) := (hbel3.setCell (by simp; omega) _).setCell (by simp; omega) _
  generalize (V.setCell ⟨Y, 9, none⟩ (.int .i64 hd)).setCell ⟨Y, 10, none⟩ (.int .i64 ht) = U at HY4 HT4 hO4 hbel4 ⊢
  clear HY3 HF3 HT3 hO3 hbel3 u0 u1 q9 q10 qf9 qf10
  go_wp2_with (refine wpList_load_blkG 32 _ _ HY4 Tryz.underlying32 (by kernel_rfl) rfl rfl (by rfl) ?_)
  go_at_call 21; refine (IsRelease_I (wrR R hd ht) A2 c2 hn hm _ hO4.ints).mono ?_; rintro e w5 ⟨rfl, hb5⟩; obtain ⟨hc5, hf5, hz5⟩ := bel hb5; (try simp only [World.size_drew, World.cell?_drew, World.frozen?_drew, World.heap_drewN, World.cell?_drewN, World.frozen?_drewN] at hc5 hf5 hz5); (try have hl5 : w.heap.size < w5.heap.size := zl hb5); (try have hm5 : w.heap.size + 1 < w5.heap.size := zl hb5); (try have hn5 : w.heap.size + 1 + 1 < w5.heap.size := zl hb5); (try have hp5 : b < w5.heap.size := zl hb5); (try have ho5 : b' < w5.heap.size := by (have hq := hb5.size; (try simp at hq); omega))
  have HY5 := Blk.step hb5 HY4
  have HT5 := Blk.step hb5 HT4
  have hO5 := Own.step hb5 hO4
  have hbel5 := Bel.step hb5 hbel4
  clear hb5 hc5 hf5 hz5 HY4 HT4 hO4 hbel4
  cases hz : okRe (wrR R hd ht)
  · have HV := Lib.hid (wr_5 HY.out hz)
    clear hz
    go_wp2_with (refine wpList_store_blk (cs := #[.int .i64 0, .int .i64 0, .string ⟨#[]⟩, .slice none 0 0, .int .i64 0, .int .i64 0, .int .i64 0, .int .i64 0, .int .i64 0, .int .i64 0, .int .i64 0, .int .i64 0, .int .i64 0, .int .i64 0, .int .i64 0, .int .i64 0, .int .i64 0]) 32 _ _ _ HT5 (by kernel_rfl) rfl (by simp [Value.oneCell']) rfl rfl rfl rfl ?_)
    refine bodyPost_ret (results_blk2 (Blk.setRow #[.int .i64 0, .int .i64 0, .string ⟨#[]⟩, .slice none 0 0, .int .i64 0, .int .i64 0, .int .i64 0, .int .i64 0, .int .i64 0, .int .i64 0, .int .i64 0, .int .i64 0, .int .i64 0, .int .i64 0, .int .i64 0, .int .i64 0, .int .i64 0] HT5) Tryz.underlying32 (by kernel_rfl) rfl rfl) rfl ⟨none, 0, by rw [HV.out.1, HV.out.2]; rfl, by rw [HV.out.2]; exact Own.nil _ _ _, Bel.setRow hbel5 (by omega) _⟩
  have HV := Lib.hid (wr_0 HY.out hz)
  clear hz
  go_upto_region 7 with (fail)
  apply wp_region_lit
  refine wpList_load_blk 32 _ _ HY5 Tryz.underlying32 (by kernel_rfl) rfl rfl rfl ?_
  refine wpList_store_blk (cs := #[.int .i64 (wrR R hd ht).ch.dg, .int .i64 (wrR R hd ht).ch.tn, .string (wrR R hd ht).ch.nm, .slice A2 (wrR R hd ht).ch.zs.length c2, .int .i64 (wrR R hd ht).ch.wd, .int .i64 (wrR R hd ht).ch.lf, .int .i64 (wrR R hd ht).ch.rt, .int .i64 (wrR R hd ht).ad, .int .i64 (wrR R hd ht).at_, .int .i64 (wrR R hd ht).bd, .int .i64 (wrR R hd ht).bt, .int .i64 (wrR R hd ht).cd, .int .i64 (wrR R hd ht).ct, .int .i64 (wrR R hd ht).dd, .int .i64 (wrR R hd ht).dt, .int .i64 (wrR R hd ht).ey, .int .i64 (wrR R hd ht).bo]) 32 _ _ _ HT5 (by kernel_rfl) rfl (by simp [Value.oneCell']) rfl rfl rfl rfl ?_
  have hO6 := Own.setRow_lo (g := w.heap.size + 1 + 1) hO5 (by omega) #[.int .i64 (wrR R hd ht).ch.dg, .int .i64 (wrR R hd ht).ch.tn, .string (wrR R hd ht).ch.nm, .slice A2 (wrR R hd ht).ch.zs.length c2, .int .i64 (wrR R hd ht).ch.wd, .int .i64 (wrR R hd ht).ch.lf, .int .i64 (wrR R hd ht).ch.rt, .int .i64 (wrR R hd ht).ad, .int .i64 (wrR R hd ht).at_, .int .i64 (wrR R hd ht).bd, .int .i64 (wrR R hd ht).bt, .int .i64 (wrR R hd ht).cd, .int .i64 (wrR R hd ht).ct, .int .i64 (wrR R hd ht).dd, .int .i64 (wrR R hd ht).dt, .int .i64 (wrR R hd ht).ey, .int .i64 (wrR R hd ht).bo]
  go_wp2_with fail
  refine bodyPost_ret (results_blk2 (Blk.setRow #[.int .i64 (wrR R hd ht).ch.dg, .int .i64 (wrR R hd ht).ch.tn, .string (wrR R hd ht).ch.nm, .slice A2 (wrR R hd ht).ch.zs.length c2, .int .i64 (wrR R hd ht).ch.wd, .int .i64 (wrR R hd ht).ch.lf, .int .i64 (wrR R hd ht).ch.rt, .int .i64 (wrR R hd ht).ad, .int .i64 (wrR R hd ht).at_, .int .i64 (wrR R hd ht).bd, .int .i64 (wrR R hd ht).bt, .int .i64 (wrR R hd ht).cd, .int .i64 (wrR R hd ht).ct, .int .i64 (wrR R hd ht).dd, .int .i64 (wrR R hd ht).dt, .int .i64 (wrR R hd ht).ey, .int .i64 (wrR R hd ht).bo] HT5) Tryz.underlying32 (by kernel_rfl) rfl rfl) rfl ⟨A2, c2, by rw [HV.out.1, HV.out.2]; rfl, by rw [HV.out.2]; exact Own.ge_mono hO6 (by omega), Bel.setRow hbel5 (by omega) _⟩
end Go.Proofs.YtpmcgicopogbhaaGreat
