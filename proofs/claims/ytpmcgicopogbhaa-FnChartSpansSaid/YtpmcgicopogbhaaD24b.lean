/- Draws: a chart, three figures and an error. Conditions: as stated at each contract. -/
import Derived.Test.YtpmcgicopogbhaaProg
import Derived.Test.YtpmcgicopogbhaaBase
import Derived.Test.YtpmcgicopogbhaaRw
import Derived.Test.YtpmcgicopogbhaaRg
import Derived.Test.YtpmcgicopogbhaaL01
import Derived.Test.YtpmcgicopogbhaaCp
import Derived.Test.YtpmcgicopogbhaaCm
import Derived.Test.YtpmcgicopogbhaaL18
import Derived.Test.YtpmcgicopogbhaaL23
import Derived.Test.YtpmcgicopogbhaaL03
import Derived.Test.YtpmcgicopogbhaaL04
import Derived.Test.YtpmcgicopogbhaaL24
import Derived.Test.YtpmcgicopogbhaaL24b
import Derived.Test.YtpmcgicopogbhaaL24s
import Derived.Test.YtpmcgicopogbhaaD00
import Derived.Test.YtpmcgicopogbhaaD01
import Derived.Test.YtpmcgicopogbhaaD02
import Derived.Test.YtpmcgicopogbhaaD03
import Derived.Test.YtpmcgicopogbhaaD18
import Derived.Test.YtpmcgicopogbhaaD23
import Derived.Test.YtpmcgicopogbhaaD24
import Derived.WalkKit
import Derived.WalkSpells
import Derived.WalkLawsBesides
import Derived.Lib.Hide
import Derived.Deep.QuietTactic
import Derived.BigQuiet
import Derived.Deep.Draws
import Derived.Deep.RegionHeld3
import Derived.Deep.Cut
namespace Go.Proofs.Ytpmcgicopogbhaa
open Go.RowKit
set_option linter.unusedVariables false
set_option linter.unusedSimpArgs false
/-- A chart, three figures and an error are drawn. -/
def OlQ (w : World) (e : Ending) (w' : World) : Prop := ∃ (C : Ch) (g c : Nat) (ud ut vd vt xd xt x : Int), e = .returned (.tuple #[.agg #[.int .i64 C.dg, .int .i64 C.tn, .string C.nm, .slice (some ⟨g, 0, none⟩) C.zs.length c, .int .i64 C.wd, .int .i64 C.lf, .int .i64 C.rt], .agg #[.int .i64 ud, .int .i64 ut], .agg #[.int .i64 vd, .int .i64 vt], .agg #[.int .i64 xd, .int .i64 xt], .int .i64 x]) ∧ C.zs.length ≤ 27 ∧ C.nm.size ≤ 27 ∧ Own w' w.heap.size 2 (.slice (some ⟨g, 0, none⟩) C.zs.length c) C.zs ∧ Below w.heap.size w w'
set_option maxRecDepth 20000 in
set_option maxHeartbeats 4000000 in
theorem DrawIsOnLine_c (A : Option Addr) (c : Nat) (zs : List Int) (hz : zs.length ≤ 4096) (w : World) (hA : Byts w A zs) :
    Calls Try.prog 36 #[.slice A zs.length c] w (OlQ w) := by
  have HA := Lib.hid hA
  have HB := Lib.hid (Below.refl w.heap.size w)
  have HR1 := Lib.hid (by have h := Blk.new w 30 #[.int .i64 0, .int .i64 0, .string ⟨#[]⟩, .slice none 0 0, .int .i64 0, .int .i64 0, .int .i64 0]; (try simp only [World.size_alloc] at h); exact h)
  replace HB := Lib.hid (Bel.alloc HB.out (.cells #[.int .i64 0, .int .i64 0, .string ⟨#[]⟩, .slice none 0 0, .int .i64 0, .int .i64 0, .int .i64 0] 30))
  have HR2 := Lib.hid (by have h := Blk.new (w.alloc (.cells #[.int .i64 0, .int .i64 0, .string ⟨#[]⟩, .slice none 0 0, .int .i64 0, .int .i64 0, .int .i64 0] 30)) 25 #[.int .i64 0, .int .i64 0]; (try simp only [World.size_alloc] at h); exact h)
  replace HR1 := Lib.hid (Blk.alloc (.cells #[.int .i64 0, .int .i64 0] 25) HR1.out)
  replace HB := Lib.hid (Bel.alloc HB.out (.cells #[.int .i64 0, .int .i64 0] 25))
  have HR3 := Lib.hid (by have h := Blk.new ((w.alloc (.cells #[.int .i64 0, .int .i64 0, .string ⟨#[]⟩, .slice none 0 0, .int .i64 0, .int .i64 0, .int .i64 0] 30)).alloc (.cells #[.int .i64 0, .int .i64 0] 25)) 25 #[.int .i64 0, .int .i64 0]; (try simp only [World.size_alloc] at h); exact h)
  replace HR1 := Lib.hid (Blk.alloc (.cells #[.int .i64 0, .int .i64 0] 25) HR1.out)
  replace HR2 := Lib.hid (Blk.alloc (.cells #[.int .i64 0, .int .i64 0] 25) HR2.out)
  replace HB := Lib.hid (Bel.alloc HB.out (.cells #[.int .i64 0, .int .i64 0] 25))
  have HR4 := Lib.hid (by have h := Blk.new (((w.alloc (.cells #[.int .i64 0, .int .i64 0, .string ⟨#[]⟩, .slice none 0 0, .int .i64 0, .int .i64 0, .int .i64 0] 30)).alloc (.cells #[.int .i64 0, .int .i64 0] 25)).alloc (.cells #[.int .i64 0, .int .i64 0] 25)) 25 #[.int .i64 0, .int .i64 0]; (try simp only [World.size_alloc] at h); exact h)
  replace HR1 := Lib.hid (Blk.alloc (.cells #[.int .i64 0, .int .i64 0] 25) HR1.out)
  replace HR2 := Lib.hid (Blk.alloc (.cells #[.int .i64 0, .int .i64 0] 25) HR2.out)
  replace HR3 := Lib.hid (Blk.alloc (.cells #[.int .i64 0, .int .i64 0] 25) HR3.out)
  replace HB := Lib.hid (Bel.alloc HB.out (.cells #[.int .i64 0, .int .i64 0] 25))
  clear hA
  go_enter Try.func36, Try.ntmps36
  go_wp2_with fail
  go_at_call 105; refine (l01From_c A c zs hz _ (Byts.step (by repeat (with_reducible first | exact Below.refl _ _ | refine Bel.alloc ?_ _)) HA.out)).mono ?_; rintro e w1 ⟨X, rfl, hX, hS, hb1⟩; replace HR1 := Lib.hid (Blk.step hb1 HR1.out); replace HR2 := Lib.hid (Blk.step hb1 HR2.out); replace HR3 := Lib.hid (Blk.step hb1 HR3.out); replace HR4 := Lib.hid (Blk.step hb1 HR4.out); have HS := Lib.hid hS; have HK := Lib.hid (Kp.below (X := X) (a := w) hb1 (by repeat (with_reducible first | exact Kp.refl _ _ | refine Kp.alloc _ ?_ | refine Kp.drew ?_ | refine Kp.drewN _ ?_))); have hlX := hS.lt; have hsz1 := hb1.size; (try simp only [World.size_alloc] at hX hsz1); clear hS hb1
  go_wp2_with fail
  go_at_call 104; refine (l24Draw_c X A zs _ (by repeat (with_reducible first | exact HS.out | refine Src.alloc _ ?_ | refine Src.drew ?_ | refine Src.drewN _ ?_ | (refine Src.far _ ?_ ?_; (have := HS.out.lt; first | omega | (simp; omega))) | (refine Src.setRow _ ?_ ?_; (have := HS.out.lt; first | omega | (simp; omega)))))).mono ?_; rintro e w2 ⟨C, g, q, ud, ut, vd, vt, x, rfl, hn, hm, hO, hd2⟩; obtain ⟨hq, hr⟩ := World.ownsRow.lt hO g rfl; (try simp only [World.size_alloc] at hq); have HO := Lib.hid hO; clear hO; have hkb := hd2.kp; have hka := Kp.ka HK.out hkb (by repeat (with_reducible first | exact Kp.refl _ _ | refine Kp.alloc _ ?_ | refine Kp.drew ?_ | refine Kp.drewN _ ?_)); have hlS2 := HS.out.lt; (try (replace HR1 := Lib.hid (Blk.kp2 hka hkb (by first | omega | (simp; omega)) (by first | omega | (simp; omega)) HR1.out))); (try (replace HR2 := Lib.hid (Blk.kp2 hka hkb (by first | omega | (simp; omega)) (by first | omega | (simp; omega)) HR2.out))); (try (replace HR3 := Lib.hid (Blk.kp2 hka hkb (by first | omega | (simp; omega)) (by first | omega | (simp; omega)) HR3.out))); (try (replace HR4 := Lib.hid (Blk.kp2 hka hkb (by first | omega | (simp; omega)) (by first | omega | (simp; omega)) HR4.out))); replace HK := Lib.hid (Kp.trans HK.out (Kp.trans hka hkb)); have hsz2 := hkb.size_; have hsy2 := hka.size_; (try simp only [World.size_alloc, World.size_drew, World.heap_drewN, World.size_setCell] at hsz2 hsy2); replace HS := Lib.hid hd2.src; clear hka hkb hd2 hlS2; have hlS2 := HS.out.lt
  clear HB
  have HF := Lib.hid (Blk.new w2 30 #[.int .i64 C.dg, .int .i64 C.tn, .string C.nm, .slice (some ⟨g, 0, none⟩) C.zs.length q, .int .i64 C.wd, .int .i64 C.lf, .int .i64 C.rt])
  replace HR1 := Lib.hid (Blk.alloc (.cells #[.int .i64 C.dg, .int .i64 C.tn, .string C.nm, .slice (some ⟨g, 0, none⟩) C.zs.length q, .int .i64 C.wd, .int .i64 C.lf, .int .i64 C.rt] 30) HR1.out)
  replace HR2 := Lib.hid (Blk.alloc (.cells #[.int .i64 C.dg, .int .i64 C.tn, .string C.nm, .slice (some ⟨g, 0, none⟩) C.zs.length q, .int .i64 C.wd, .int .i64 C.lf, .int .i64 C.rt] 30) HR2.out)
  replace HR3 := Lib.hid (Blk.alloc (.cells #[.int .i64 C.dg, .int .i64 C.tn, .string C.nm, .slice (some ⟨g, 0, none⟩) C.zs.length q, .int .i64 C.wd, .int .i64 C.lf, .int .i64 C.rt] 30) HR3.out)
  replace HR4 := Lib.hid (Blk.alloc (.cells #[.int .i64 C.dg, .int .i64 C.tn, .string C.nm, .slice (some ⟨g, 0, none⟩) C.zs.length q, .int .i64 C.wd, .int .i64 C.lf, .int .i64 C.rt] 30) HR4.out)
  replace HO := Lib.hid (Own.alloc (.cells #[.int .i64 C.dg, .int .i64 C.tn, .string C.nm, .slice (some ⟨g, 0, none⟩) C.zs.length q, .int .i64 C.wd, .int .i64 C.lf, .int .i64 C.rt] 30) HO.out)
  replace HS := Lib.hid (Src.alloc (.cells #[.int .i64 C.dg, .int .i64 C.tn, .string C.nm, .slice (some ⟨g, 0, none⟩) C.zs.length q, .int .i64 C.wd, .int .i64 C.lf, .int .i64 C.rt] 30) HS.out)
  replace HK := Lib.hid (Kp.alloc (.cells #[.int .i64 C.dg, .int .i64 C.tn, .string C.nm, .slice (some ⟨g, 0, none⟩) C.zs.length q, .int .i64 C.wd, .int .i64 C.lf, .int .i64 C.rt] 30) HK.out)
  have HU := Lib.hid (by have h := Blk.new (w2.alloc (.cells #[.int .i64 C.dg, .int .i64 C.tn, .string C.nm, .slice (some ⟨g, 0, none⟩) C.zs.length q, .int .i64 C.wd, .int .i64 C.lf, .int .i64 C.rt] 30)) 25 #[.int .i64 ud, .int .i64 ut]; simp only [World.size_alloc] at h; exact h)
  replace HR1 := Lib.hid (Blk.alloc (.cells #[.int .i64 ud, .int .i64 ut] 25) HR1.out)
  replace HR2 := Lib.hid (Blk.alloc (.cells #[.int .i64 ud, .int .i64 ut] 25) HR2.out)
  replace HR3 := Lib.hid (Blk.alloc (.cells #[.int .i64 ud, .int .i64 ut] 25) HR3.out)
  replace HR4 := Lib.hid (Blk.alloc (.cells #[.int .i64 ud, .int .i64 ut] 25) HR4.out)
  replace HF := Lib.hid (Blk.alloc (.cells #[.int .i64 ud, .int .i64 ut] 25) HF.out)
  replace HO := Lib.hid (Own.alloc (.cells #[.int .i64 ud, .int .i64 ut] 25) HO.out)
  replace HS := Lib.hid (Src.alloc (.cells #[.int .i64 ud, .int .i64 ut] 25) HS.out)
  replace HK := Lib.hid (Kp.alloc (.cells #[.int .i64 ud, .int .i64 ut] 25) HK.out)
  have HV := Lib.hid (by have h := Blk.new ((w2.alloc (.cells #[.int .i64 C.dg, .int .i64 C.tn, .string C.nm, .slice (some ⟨g, 0, none⟩) C.zs.length q, .int .i64 C.wd, .int .i64 C.lf, .int .i64 C.rt] 30)).alloc (.cells #[.int .i64 ud, .int .i64 ut] 25)) 25 #[.int .i64 vd, .int .i64 vt]; simp only [World.size_alloc] at h; exact h)
  replace HR1 := Lib.hid (Blk.alloc (.cells #[.int .i64 vd, .int .i64 vt] 25) HR1.out)
  replace HR2 := Lib.hid (Blk.alloc (.cells #[.int .i64 vd, .int .i64 vt] 25) HR2.out)
  replace HR3 := Lib.hid (Blk.alloc (.cells #[.int .i64 vd, .int .i64 vt] 25) HR3.out)
  replace HR4 := Lib.hid (Blk.alloc (.cells #[.int .i64 vd, .int .i64 vt] 25) HR4.out)
  replace HF := Lib.hid (Blk.alloc (.cells #[.int .i64 vd, .int .i64 vt] 25) HF.out)
  replace HU := Lib.hid (Blk.alloc (.cells #[.int .i64 vd, .int .i64 vt] 25) HU.out)
  replace HO := Lib.hid (Own.alloc (.cells #[.int .i64 vd, .int .i64 vt] 25) HO.out)
  replace HS := Lib.hid (Src.alloc (.cells #[.int .i64 vd, .int .i64 vt] 25) HS.out)
  replace HK := Lib.hid (Kp.alloc (.cells #[.int .i64 vd, .int .i64 vt] 25) HK.out)
  go_wp2_with fail
  go_at_call 111; refine (l02Draw_c X A zs _ (by repeat (with_reducible first | exact HS.out | refine Src.alloc _ ?_ | refine Src.drew ?_ | refine Src.drewN _ ?_ | (refine Src.far _ ?_ ?_; (have := HS.out.lt; first | omega | (simp; omega))) | (refine Src.setRow _ ?_ ?_; (have := HS.out.lt; first | omega | (simp; omega)))))).mono ?_; rintro e w3 ⟨d3, t3, rfl, ho3, hd3⟩; clear ho3; have hkb := hd3.kp; have hka := Kp.ka HK.out hkb (by repeat (with_reducible first | exact Kp.refl _ _ | refine Kp.alloc _ ?_ | refine Kp.drew ?_ | refine Kp.drewN _ ?_)); have hlS3 := HS.out.lt; (try (replace HR1 := Lib.hid (Blk.kp2 hka hkb (by first | omega | (simp; omega)) (by first | omega | (simp; omega)) HR1.out))); (try (replace HR2 := Lib.hid (Blk.kp2 hka hkb (by first | omega | (simp; omega)) (by first | omega | (simp; omega)) HR2.out))); (try (replace HR3 := Lib.hid (Blk.kp2 hka hkb (by first | omega | (simp; omega)) (by first | omega | (simp; omega)) HR3.out))); (try (replace HR4 := Lib.hid (Blk.kp2 hka hkb (by first | omega | (simp; omega)) (by first | omega | (simp; omega)) HR4.out))); (try (replace HF := Lib.hid (Blk.kp2 hka hkb (by first | omega | (simp; omega)) (by first | omega | (simp; omega)) HF.out))); (try (replace HU := Lib.hid (Blk.kp2 hka hkb (by first | omega | (simp; omega)) (by first | omega | (simp; omega)) HU.out))); (try (replace HV := Lib.hid (Blk.kp2 hka hkb (by first | omega | (simp; omega)) (by first | omega | (simp; omega)) HV.out))); (try (replace HO := Lib.hid (Own.kp3 hka hkb (by first | omega | (simp; omega)) (by first | omega | (simp; omega)) HO.out))); replace HK := Lib.hid (Kp.trans HK.out (Kp.trans hka hkb)); have hsz3 := hkb.size_; have hsy3 := hka.size_; (try simp only [World.size_alloc, World.size_drew, World.heap_drewN, World.size_setCell] at hsz3 hsy3); replace HS := Lib.hid hd3.src; clear hka hkb hd3 hlS3; have hlS3 := HS.out.lt
  have HX := Lib.hid (Blk.new w3 25 #[.int .i64 d3, .int .i64 t3])
  replace HR1 := Lib.hid (Blk.alloc (.cells #[.int .i64 d3, .int .i64 t3] 25) HR1.out)
  replace HR2 := Lib.hid (Blk.alloc (.cells #[.int .i64 d3, .int .i64 t3] 25) HR2.out)
  replace HR3 := Lib.hid (Blk.alloc (.cells #[.int .i64 d3, .int .i64 t3] 25) HR3.out)
  replace HR4 := Lib.hid (Blk.alloc (.cells #[.int .i64 d3, .int .i64 t3] 25) HR4.out)
  replace HF := Lib.hid (Blk.alloc (.cells #[.int .i64 d3, .int .i64 t3] 25) HF.out)
  replace HU := Lib.hid (Blk.alloc (.cells #[.int .i64 d3, .int .i64 t3] 25) HU.out)
  replace HV := Lib.hid (Blk.alloc (.cells #[.int .i64 d3, .int .i64 t3] 25) HV.out)
  replace HO := Lib.hid (Own.alloc (.cells #[.int .i64 d3, .int .i64 t3] 25) HO.out)
  replace HS := Lib.hid (Src.alloc (.cells #[.int .i64 d3, .int .i64 t3] 25) HS.out)
  replace HK := Lib.hid (Kp.alloc (.cells #[.int .i64 d3, .int .i64 t3] 25) HK.out)
  go_wp2_with (first | (refine wpList_load_blkG 30 _ _ (Blk.kp (Kp.ka0 HK.out (by repeat (with_reducible first | exact Kp.refl _ _ | refine Kp.alloc _ ?_ | refine Kp.drew ?_ | refine Kp.drewN _ ?_))) (by first | omega | (simp; omega)) HF.out) Try.underlying30 (by kernel_rfl) rfl rfl (by rfl) ?_) | (refine wpList_load_blkG 25 _ _ (Blk.kp (Kp.ka0 HK.out (by repeat (with_reducible first | exact Kp.refl _ _ | refine Kp.alloc _ ?_ | refine Kp.drew ?_ | refine Kp.drewN _ ?_))) (by first | omega | (simp; omega)) HU.out) Try.underlying25 (by kernel_rfl) rfl rfl (by rfl) ?_) | (refine wpList_load_blkG 25 _ _ (Blk.kp (Kp.ka0 HK.out (by repeat (with_reducible first | exact Kp.refl _ _ | refine Kp.alloc _ ?_ | refine Kp.drew ?_ | refine Kp.drewN _ ?_))) (by first | omega | (simp; omega)) HV.out) Try.underlying25 (by kernel_rfl) rfl rfl (by rfl) ?_))
  go_at_call 35; refine (ExactSpan_S C (some ⟨g, 0, none⟩) q ud ut vd vt (by omega) (by omega) _ HO.out.ints).mono ?_; rintro e w4 ⟨rfl, hb4⟩; replace HR1 := Lib.hid (Blk.step hb4 HR1.out); replace HR2 := Lib.hid (Blk.step hb4 HR2.out); replace HR3 := Lib.hid (Blk.step hb4 HR3.out); replace HR4 := Lib.hid (Blk.step hb4 HR4.out); replace HF := Lib.hid (Blk.step hb4 HF.out); replace HU := Lib.hid (Blk.step hb4 HU.out); replace HV := Lib.hid (Blk.step hb4 HV.out); replace HX := Lib.hid (Blk.step hb4 HX.out); replace HO := Lib.hid (Own.step hb4 HO.out); replace HS := Lib.hid (Src.step hb4 HS.out); replace HK := Lib.hid (Kp.below hb4 HK.out); have hsz4 := hb4.size; (try simp only [World.size_alloc] at hsz4); clear hb4; have hlS4 := HS.out.lt
  generalize es0 C ud ut vd vt = e0
  generalize es1 C ud ut vd vt = e1
  generalize es2 C ud ut vd vt = e2
  generalize es3 C ud ut vd vt = e3
  generalize esC C ud ut vd vt = ek
  have HL := Lib.hid (Blk.new w4 25 #[.int .i64 e0, .int .i64 e1])
  replace HR1 := Lib.hid (Blk.alloc (.cells #[.int .i64 e0, .int .i64 e1] 25) HR1.out)
  replace HR2 := Lib.hid (Blk.alloc (.cells #[.int .i64 e0, .int .i64 e1] 25) HR2.out)
  replace HR3 := Lib.hid (Blk.alloc (.cells #[.int .i64 e0, .int .i64 e1] 25) HR3.out)
  replace HR4 := Lib.hid (Blk.alloc (.cells #[.int .i64 e0, .int .i64 e1] 25) HR4.out)
  replace HF := Lib.hid (Blk.alloc (.cells #[.int .i64 e0, .int .i64 e1] 25) HF.out)
  replace HU := Lib.hid (Blk.alloc (.cells #[.int .i64 e0, .int .i64 e1] 25) HU.out)
  replace HV := Lib.hid (Blk.alloc (.cells #[.int .i64 e0, .int .i64 e1] 25) HV.out)
  replace HX := Lib.hid (Blk.alloc (.cells #[.int .i64 e0, .int .i64 e1] 25) HX.out)
  replace HO := Lib.hid (Own.alloc (.cells #[.int .i64 e0, .int .i64 e1] 25) HO.out)
  replace HS := Lib.hid (Src.alloc (.cells #[.int .i64 e0, .int .i64 e1] 25) HS.out)
  replace HK := Lib.hid (Kp.alloc (.cells #[.int .i64 e0, .int .i64 e1] 25) HK.out)
  have HM := Lib.hid (by have h := Blk.new (w4.alloc (.cells #[.int .i64 e0, .int .i64 e1] 25)) 25 #[.int .i64 e2, .int .i64 e3]; simp only [World.size_alloc] at h; exact h)
  replace HR1 := Lib.hid (Blk.alloc (.cells #[.int .i64 e2, .int .i64 e3] 25) HR1.out)
  replace HR2 := Lib.hid (Blk.alloc (.cells #[.int .i64 e2, .int .i64 e3] 25) HR2.out)
  replace HR3 := Lib.hid (Blk.alloc (.cells #[.int .i64 e2, .int .i64 e3] 25) HR3.out)
  replace HR4 := Lib.hid (Blk.alloc (.cells #[.int .i64 e2, .int .i64 e3] 25) HR4.out)
  replace HF := Lib.hid (Blk.alloc (.cells #[.int .i64 e2, .int .i64 e3] 25) HF.out)
  replace HU := Lib.hid (Blk.alloc (.cells #[.int .i64 e2, .int .i64 e3] 25) HU.out)
  replace HV := Lib.hid (Blk.alloc (.cells #[.int .i64 e2, .int .i64 e3] 25) HV.out)
  replace HX := Lib.hid (Blk.alloc (.cells #[.int .i64 e2, .int .i64 e3] 25) HX.out)
  replace HL := Lib.hid (Blk.alloc (.cells #[.int .i64 e2, .int .i64 e3] 25) HL.out)
  replace HO := Lib.hid (Own.alloc (.cells #[.int .i64 e2, .int .i64 e3] 25) HO.out)
  replace HS := Lib.hid (Src.alloc (.cells #[.int .i64 e2, .int .i64 e3] 25) HS.out)
  replace HK := Lib.hid (Kp.alloc (.cells #[.int .i64 e2, .int .i64 e3] 25) HK.out)
  go_upto_region 5 with (fail)
  generalize hVV : (w4.alloc (.cells #[.int .i64 e0, .int .i64 e1] 25)).alloc (.cells #[.int .i64 e2, .int .i64 e3] 25) = V at HR1 HR2 HR3 HR4 HF HU HV HX HL HM HO HS HK ⊢
  have hlV : w4.heap.size + 1 < V.heap.size := HM.out.lt
  clear hVV HA
  by_cases hek : ek = 0
  rotate_left
  · have hekb : (ek == 0) = false := by simpa using hek
    go_upto_region 8 with (fail)
    obtain ⟨V2, rfl⟩ : ∃ U : World, U = V := ⟨_, rfl⟩
    obtain ⟨fa, rfl⟩ : ∃ z : Int, z = d3 := ⟨_, rfl⟩
    obtain ⟨fb, rfl⟩ : ∃ z : Int, z = t3 := ⟨_, rfl⟩
    have hlX2 := HX.out.lt
    refine wp_region_held_drew (S := fun W => Blk W w2.heap.size 30 #[.int .i64 C.dg, .int .i64 C.tn, .string C.nm, .slice (some ⟨g, 0, none⟩) C.zs.length q, .int .i64 C.wd, .int .i64 C.lf, .int .i64 C.rt] ∧ Blk W (w2.heap.size + 1) 25 #[.int .i64 ud, .int .i64 ut] ∧ Blk W (w2.heap.size + 1 + 1) 25 #[.int .i64 vd, .int .i64 vt] ∧ Blk W w3.heap.size 25 #[.int .i64 fa, .int .i64 fb]) (by kernel_rfl) (⟨HF.out.drew, HU.out.drew, HV.out.drew, HX.out.drew⟩) (fun hHeld => ?_)
    replace HR1 := Lib.hid HR1.out.drew
    replace HR2 := Lib.hid HR2.out.drew
    replace HR3 := Lib.hid HR3.out.drew
    replace HR4 := Lib.hid HR4.out.drew
    replace HF := Lib.hid HF.out.drew
    replace HU := Lib.hid HU.out.drew
    replace HV := Lib.hid HV.out.drew
    replace HX := Lib.hid HX.out.drew
    replace HO := Lib.hid HO.out.drew
    replace HS := Lib.hid HS.out.drew
    replace HK := Lib.hid HK.out.drew
    have hsd : V2.drew.heap.size = V2.heap.size := rfl
    rw [← hsd] at hlX2
    clear hsd
    generalize V2.drew = v2 at HR1 HR2 HR3 HR4 HF HU HV HX HO HS HK hHeld hlX2 ⊢
    refine wpAnyH_take (i := 0) (v := .agg #[.int .i64 C.dg, .int .i64 C.tn, .string C.nm, .slice (some ⟨g, 0, none⟩) C.zs.length q, .int .i64 C.wd, .int .i64 C.lf, .int .i64 C.rt]) rfl (by kernel_rfl) (by kernel_rfl) (by kernel_rfl) (fun _ _ _ h => h) (yieldsIf_load_blk 30 _ (w2.heap.size) (fun _ h => h.1) Try.underlying30 (by kernel_rfl) (by rfl) rfl rfl) hHeld ?_
    simp only [Act.put, List.getElem_toArray, List.getElem_cons_succ, List.getElem_cons_zero, List.setIfInBounds_toArray, List.set_cons_zero, List.set_cons_succ]
    refine wpAnyH_take (i := 1) (v := .agg #[.int .i64 ud, .int .i64 ut]) rfl (by kernel_rfl) (by kernel_rfl) (by kernel_rfl) (fun _ _ _ h => h) (yieldsIf_load_blk 25 _ ((w2.heap.size + 1)) (fun _ h => h.2.1) Try.underlying25 (by kernel_rfl) (by rfl) rfl rfl) hHeld ?_
    simp only [Act.put, List.getElem_toArray, List.getElem_cons_succ, List.getElem_cons_zero, List.setIfInBounds_toArray, List.set_cons_zero, List.set_cons_succ]
    refine wpAnyH_take (i := 2) (v := .agg #[.int .i64 vd, .int .i64 vt]) rfl (by kernel_rfl) (by kernel_rfl) (by kernel_rfl) (fun _ _ _ h => h) (yieldsIf_load_blk 25 _ ((w2.heap.size + 1 + 1)) (fun _ h => h.2.2.1) Try.underlying25 (by kernel_rfl) (by rfl) rfl rfl) hHeld ?_
    simp only [Act.put, List.getElem_toArray, List.getElem_cons_succ, List.getElem_cons_zero, List.setIfInBounds_toArray, List.set_cons_zero, List.set_cons_succ]
    refine wpAnyH_take (i := 3) (v := .agg #[.int .i64 fa, .int .i64 fb]) rfl (by kernel_rfl) (by kernel_rfl) (by kernel_rfl) (fun _ _ _ h => h) (yieldsIf_load_blk 25 _ (w3.heap.size) (fun _ h => h.2.2.2) Try.underlying25 (by kernel_rfl) (by rfl) rfl rfl) hHeld ?_
    simp only [Act.put, List.getElem_toArray, List.getElem_cons_succ, List.getElem_cons_zero, List.setIfInBounds_toArray, List.set_cons_zero, List.set_cons_succ]
    refine wpAnyH_take (i := 4) (v := (.int .i64 x)) rfl (by kernel_rfl) (by kernel_rfl) (by kernel_rfl) (fun _ _ _ h => h) (Or.inl ⟨by rfl, fun w _ => by simp [go_sem, execOp]⟩) hHeld ?_
    simp only [Act.put, List.getElem_toArray, List.getElem_cons_succ, List.getElem_cons_zero, List.setIfInBounds_toArray, List.set_cons_zero, List.set_cons_succ]
    refine wpAnyH_ready (rs := [5]) (by kernel_rfl) (by simp) ?_
    refine AllReadyH.cons rfl (fun K hK => ?_) AllReadyH.nil
    refine step_store_part 30 _ _ _ 0 (.agg #[.int .i64 C.dg, .int .i64 C.tn, .string C.nm, .slice (some ⟨g, 0, none⟩) C.zs.length q, .int .i64 C.wd, .int .i64 C.lf, .int .i64 C.rt]) #[.int .i64 C.dg, .int .i64 C.tn, .string C.nm, .slice (some ⟨g, 0, none⟩) C.zs.length q, .int .i64 C.wd, .int .i64 C.lf, .int .i64 C.rt] (Blk.kp (Kp.ka0 HK.out (by repeat (with_reducible first | exact Kp.refl _ _ | refine Kp.alloc _ ?_ | refine Kp.drew ?_ | refine Kp.drewN _ ?_))) (by first | omega | (simp; omega)) HR1.out) rfl rfl rfl rfl rfl (by rfl) (by kernel_rfl) (by simp [Value.oneCell']) (by simp) ?_; intro wS hBS hkb; simp only [setL, List.setIfInBounds_toArray, List.set_cons_zero, List.set_cons_succ] at hBS; have hka := Kp.ka HK.out hkb (by repeat (with_reducible first | exact Kp.refl _ _ | refine Kp.alloc _ ?_ | refine Kp.drew ?_ | refine Kp.drewN _ ?_)); have hlSo := HS.out.lt; (try (replace HF := Lib.hid (Blk.kp2 hka hkb (by first | omega | (simp; omega)) (by first | omega | (simp; omega)) HF.out))); (try (replace HU := Lib.hid (Blk.kp2 hka hkb (by first | omega | (simp; omega)) (by first | omega | (simp; omega)) HU.out))); (try (replace HV := Lib.hid (Blk.kp2 hka hkb (by first | omega | (simp; omega)) (by first | omega | (simp; omega)) HV.out))); (try (replace HX := Lib.hid (Blk.kp2 hka hkb (by first | omega | (simp; omega)) (by first | omega | (simp; omega)) HX.out))); (try (replace HR2 := Lib.hid (Blk.kp2 hka hkb (by first | omega | (simp; omega)) (by first | omega | (simp; omega)) HR2.out))); (try (replace HR3 := Lib.hid (Blk.kp2 hka hkb (by first | omega | (simp; omega)) (by first | omega | (simp; omega)) HR3.out))); (try (replace HR4 := Lib.hid (Blk.kp2 hka hkb (by first | omega | (simp; omega)) (by first | omega | (simp; omega)) HR4.out))); (try (replace HO := Lib.hid (Own.kp3 hka hkb (by first | omega | (simp; omega)) (by first | omega | (simp; omega)) HO.out))); (try replace HS := Lib.hid (Src.kpg2 HS.out (by repeat (with_reducible first | exact Below.refl _ _ | refine Bel.alloc ?_ _ | refine Below.drew ?_ | refine Bel.drewN ?_ _)) hkb (by first | omega | (simp; omega)))); replace HR1 := Lib.hid hBS; replace HK := Lib.hid (Kp.own hkb (by first | omega | (simp; omega)) (Kp.trans HK.out hka)); have hszS := hkb.size_; have hsyS := hka.size_; (try simp only [World.size_alloc, World.size_drew, World.heap_drewN, World.size_setCell] at hszS hsyS); clear hBS hka hkb hlSo; have hlSS := HS.out.lt
    refine hK.out _ _ (⟨HF.out, HU.out, HV.out, HX.out⟩) (fun hHeld => ?_)
    clear hK K
    try simp only [Act.put, List.setIfInBounds_toArray, List.set_cons_zero, List.set_cons_succ]
    refine wpAnyH_ready (rs := [6]) (by kernel_rfl) (by simp) ?_
    refine AllReadyH.cons rfl (fun K hK => ?_) AllReadyH.nil
    refine step_store_part 25 _ _ _ 0 (.agg #[.int .i64 ud, .int .i64 ut]) #[.int .i64 ud, .int .i64 ut] (Blk.kp (Kp.ka0 HK.out (by repeat (with_reducible first | exact Kp.refl _ _ | refine Kp.alloc _ ?_ | refine Kp.drew ?_ | refine Kp.drewN _ ?_))) (by first | omega | (simp; omega)) HR2.out) rfl rfl rfl rfl rfl (by rfl) (by kernel_rfl) (by simp [Value.oneCell']) (by simp) ?_; intro wS hBS hkb; simp only [setL, List.setIfInBounds_toArray, List.set_cons_zero, List.set_cons_succ] at hBS; have hka := Kp.ka HK.out hkb (by repeat (with_reducible first | exact Kp.refl _ _ | refine Kp.alloc _ ?_ | refine Kp.drew ?_ | refine Kp.drewN _ ?_)); have hlSo := HS.out.lt; (try (replace HF := Lib.hid (Blk.kp2 hka hkb (by first | omega | (simp; omega)) (by first | omega | (simp; omega)) HF.out))); (try (replace HU := Lib.hid (Blk.kp2 hka hkb (by first | omega | (simp; omega)) (by first | omega | (simp; omega)) HU.out))); (try (replace HV := Lib.hid (Blk.kp2 hka hkb (by first | omega | (simp; omega)) (by first | omega | (simp; omega)) HV.out))); (try (replace HX := Lib.hid (Blk.kp2 hka hkb (by first | omega | (simp; omega)) (by first | omega | (simp; omega)) HX.out))); (try (replace HR1 := Lib.hid (Blk.kp2 hka hkb (by first | omega | (simp; omega)) (by first | omega | (simp; omega)) HR1.out))); (try (replace HR3 := Lib.hid (Blk.kp2 hka hkb (by first | omega | (simp; omega)) (by first | omega | (simp; omega)) HR3.out))); (try (replace HR4 := Lib.hid (Blk.kp2 hka hkb (by first | omega | (simp; omega)) (by first | omega | (simp; omega)) HR4.out))); (try (replace HO := Lib.hid (Own.kp3 hka hkb (by first | omega | (simp; omega)) (by first | omega | (simp; omega)) HO.out))); (try replace HS := Lib.hid (Src.kpg2 HS.out (by repeat (with_reducible first | exact Below.refl _ _ | refine Bel.alloc ?_ _ | refine Below.drew ?_ | refine Bel.drewN ?_ _)) hkb (by first | omega | (simp; omega)))); replace HR2 := Lib.hid hBS; replace HK := Lib.hid (Kp.own hkb (by first | omega | (simp; omega)) (Kp.trans HK.out hka)); have hszS := hkb.size_; have hsyS := hka.size_; (try simp only [World.size_alloc, World.size_drew, World.heap_drewN, World.size_setCell] at hszS hsyS); clear hBS hka hkb hlSo; have hlSS := HS.out.lt
    refine hK.out _ _ (⟨HF.out, HU.out, HV.out, HX.out⟩) (fun hHeld => ?_)
    clear hK K
    try simp only [Act.put, List.setIfInBounds_toArray, List.set_cons_zero, List.set_cons_succ]
    refine wpAnyH_ready (rs := [7]) (by kernel_rfl) (by simp) ?_
    refine AllReadyH.cons rfl (fun K hK => ?_) AllReadyH.nil
    refine step_store_part 25 _ _ _ 0 (.agg #[.int .i64 vd, .int .i64 vt]) #[.int .i64 vd, .int .i64 vt] (Blk.kp (Kp.ka0 HK.out (by repeat (with_reducible first | exact Kp.refl _ _ | refine Kp.alloc _ ?_ | refine Kp.drew ?_ | refine Kp.drewN _ ?_))) (by first | omega | (simp; omega)) HR3.out) rfl rfl rfl rfl rfl (by rfl) (by kernel_rfl) (by simp [Value.oneCell']) (by simp) ?_; intro wS hBS hkb; simp only [setL, List.setIfInBounds_toArray, List.set_cons_zero, List.set_cons_succ] at hBS; have hka := Kp.ka HK.out hkb (by repeat (with_reducible first | exact Kp.refl _ _ | refine Kp.alloc _ ?_ | refine Kp.drew ?_ | refine Kp.drewN _ ?_)); have hlSo := HS.out.lt; (try (replace HF := Lib.hid (Blk.kp2 hka hkb (by first | omega | (simp; omega)) (by first | omega | (simp; omega)) HF.out))); (try (replace HU := Lib.hid (Blk.kp2 hka hkb (by first | omega | (simp; omega)) (by first | omega | (simp; omega)) HU.out))); (try (replace HV := Lib.hid (Blk.kp2 hka hkb (by first | omega | (simp; omega)) (by first | omega | (simp; omega)) HV.out))); (try (replace HX := Lib.hid (Blk.kp2 hka hkb (by first | omega | (simp; omega)) (by first | omega | (simp; omega)) HX.out))); (try (replace HR1 := Lib.hid (Blk.kp2 hka hkb (by first | omega | (simp; omega)) (by first | omega | (simp; omega)) HR1.out))); (try (replace HR2 := Lib.hid (Blk.kp2 hka hkb (by first | omega | (simp; omega)) (by first | omega | (simp; omega)) HR2.out))); (try (replace HR4 := Lib.hid (Blk.kp2 hka hkb (by first | omega | (simp; omega)) (by first | omega | (simp; omega)) HR4.out))); (try (replace HO := Lib.hid (Own.kp3 hka hkb (by first | omega | (simp; omega)) (by first | omega | (simp; omega)) HO.out))); (try replace HS := Lib.hid (Src.kpg2 HS.out (by repeat (with_reducible first | exact Below.refl _ _ | refine Bel.alloc ?_ _ | refine Below.drew ?_ | refine Bel.drewN ?_ _)) hkb (by first | omega | (simp; omega)))); replace HR3 := Lib.hid hBS; replace HK := Lib.hid (Kp.own hkb (by first | omega | (simp; omega)) (Kp.trans HK.out hka)); have hszS := hkb.size_; have hsyS := hka.size_; (try simp only [World.size_alloc, World.size_drew, World.heap_drewN, World.size_setCell] at hszS hsyS); clear hBS hka hkb hlSo; have hlSS := HS.out.lt
    refine hK.out _ _ (⟨HF.out, HU.out, HV.out, HX.out⟩) (fun hHeld => ?_)
    clear hK K
    try simp only [Act.put, List.setIfInBounds_toArray, List.set_cons_zero, List.set_cons_succ]
    refine wpAnyH_ready (rs := [8]) (by kernel_rfl) (by simp) ?_
    refine AllReadyH.cons rfl (fun K hK => ?_) AllReadyH.nil
    refine step_store_part 25 _ _ _ 0 (.agg #[.int .i64 fa, .int .i64 fb]) #[.int .i64 fa, .int .i64 fb] (Blk.kp (Kp.ka0 HK.out (by repeat (with_reducible first | exact Kp.refl _ _ | refine Kp.alloc _ ?_ | refine Kp.drew ?_ | refine Kp.drewN _ ?_))) (by first | omega | (simp; omega)) HR4.out) rfl rfl rfl rfl rfl (by rfl) (by kernel_rfl) (by simp [Value.oneCell']) (by simp) ?_; intro wS hBS hkb; simp only [setL, List.setIfInBounds_toArray, List.set_cons_zero, List.set_cons_succ] at hBS; have hka := Kp.ka HK.out hkb (by repeat (with_reducible first | exact Kp.refl _ _ | refine Kp.alloc _ ?_ | refine Kp.drew ?_ | refine Kp.drewN _ ?_)); have hlSo := HS.out.lt; (try (replace HF := Lib.hid (Blk.kp2 hka hkb (by first | omega | (simp; omega)) (by first | omega | (simp; omega)) HF.out))); (try (replace HU := Lib.hid (Blk.kp2 hka hkb (by first | omega | (simp; omega)) (by first | omega | (simp; omega)) HU.out))); (try (replace HV := Lib.hid (Blk.kp2 hka hkb (by first | omega | (simp; omega)) (by first | omega | (simp; omega)) HV.out))); (try (replace HX := Lib.hid (Blk.kp2 hka hkb (by first | omega | (simp; omega)) (by first | omega | (simp; omega)) HX.out))); (try (replace HR1 := Lib.hid (Blk.kp2 hka hkb (by first | omega | (simp; omega)) (by first | omega | (simp; omega)) HR1.out))); (try (replace HR2 := Lib.hid (Blk.kp2 hka hkb (by first | omega | (simp; omega)) (by first | omega | (simp; omega)) HR2.out))); (try (replace HR3 := Lib.hid (Blk.kp2 hka hkb (by first | omega | (simp; omega)) (by first | omega | (simp; omega)) HR3.out))); (try (replace HO := Lib.hid (Own.kp3 hka hkb (by first | omega | (simp; omega)) (by first | omega | (simp; omega)) HO.out))); (try replace HS := Lib.hid (Src.kpg2 HS.out (by repeat (with_reducible first | exact Below.refl _ _ | refine Bel.alloc ?_ _ | refine Below.drew ?_ | refine Bel.drewN ?_ _)) hkb (by first | omega | (simp; omega)))); replace HR4 := Lib.hid hBS; replace HK := Lib.hid (Kp.own hkb (by first | omega | (simp; omega)) (Kp.trans HK.out hka)); have hszS := hkb.size_; have hsyS := hka.size_; (try simp only [World.size_alloc, World.size_drew, World.heap_drewN, World.size_setCell] at hszS hsyS); clear hBS hka hkb hlSo; have hlSS := HS.out.lt
    refine hK.out _ _ (⟨HF.out, HU.out, HV.out, HX.out⟩) (fun hHeld => ?_)
    clear hK K
    try simp only [Act.put, List.setIfInBounds_toArray, List.set_cons_zero, List.set_cons_succ]
    refine wpAnyH_take (i := 9) (v := (.int .i64 x)) rfl (by kernel_rfl) (by kernel_rfl) (by kernel_rfl) (fun _ _ _ h => h) (Or.inl ⟨by rfl, fun w _ => by simp [go_sem, execOp]⟩) hHeld ?_
    simp only [Act.put, List.getElem_toArray, List.getElem_cons_succ, List.getElem_cons_zero, List.setIfInBounds_toArray, List.set_cons_zero, List.set_cons_succ]
    refine wpAnyH_done (by kernel_rfl) ?_ _
    go_wp2
    all_goals exact bodyPost_ret (results_5 rfl (resF_cell HR1.out Try.underlying30 (by kernel_rfl) rfl) (resF_cell HR2.out Try.underlying25 (by kernel_rfl) rfl) (resF_cell HR3.out Try.underlying25 (by kernel_rfl) rfl) (resF_cell HR4.out Try.underlying25 (by kernel_rfl) rfl) (resF_tmp _ rfl)) rfl ⟨C, g, q, ud, ut, vd, vt, fa, fb, x, rfl, by omega, by omega, Own.ge_mono HO.out (by omega), Kp.toBel HK.out (by omega)⟩
  subst hek
  go_wp2_with fail
  go_at_call 112; refine (l01Next_c X A zs _ (by omega) _ (by repeat (with_reducible first | exact HS.out | refine Src.alloc _ ?_ | refine Src.drew ?_ | refine Src.drewN _ ?_ | (refine Src.far _ ?_ ?_; (have := HS.out.lt; first | omega | (simp; omega))) | (refine Src.setRow _ ?_ ?_; (have := HS.out.lt; first | omega | (simp; omega)))))).mono ?_; rintro e w5 ⟨x5, rfl, hx5, hy5, hd5⟩; (try rw [Int.max_eq_left (by omega)] at hy5); have hkb := hd5.kp; have hka := Kp.ka HK.out hkb (by repeat (with_reducible first | exact Kp.refl _ _ | refine Kp.alloc _ ?_ | refine Kp.drew ?_ | refine Kp.drewN _ ?_)); have hlS5 := HS.out.lt; (try (replace HR1 := Lib.hid (Blk.kp2 hka hkb (by first | omega | (simp; omega)) (by first | omega | (simp; omega)) HR1.out))); (try (replace HR2 := Lib.hid (Blk.kp2 hka hkb (by first | omega | (simp; omega)) (by first | omega | (simp; omega)) HR2.out))); (try (replace HR3 := Lib.hid (Blk.kp2 hka hkb (by first | omega | (simp; omega)) (by first | omega | (simp; omega)) HR3.out))); (try (replace HR4 := Lib.hid (Blk.kp2 hka hkb (by first | omega | (simp; omega)) (by first | omega | (simp; omega)) HR4.out))); (try (replace HF := Lib.hid (Blk.kp2 hka hkb (by first | omega | (simp; omega)) (by first | omega | (simp; omega)) HF.out))); (try (replace HU := Lib.hid (Blk.kp2 hka hkb (by first | omega | (simp; omega)) (by first | omega | (simp; omega)) HU.out))); (try (replace HV := Lib.hid (Blk.kp2 hka hkb (by first | omega | (simp; omega)) (by first | omega | (simp; omega)) HV.out))); (try (replace HX := Lib.hid (Blk.kp2 hka hkb (by first | omega | (simp; omega)) (by first | omega | (simp; omega)) HX.out))); (try (replace HL := Lib.hid (Blk.kp2 hka hkb (by first | omega | (simp; omega)) (by first | omega | (simp; omega)) HL.out))); (try (replace HM := Lib.hid (Blk.kp2 hka hkb (by first | omega | (simp; omega)) (by first | omega | (simp; omega)) HM.out))); (try (replace HO := Lib.hid (Own.kp3 hka hkb (by first | omega | (simp; omega)) (by first | omega | (simp; omega)) HO.out))); replace HK := Lib.hid (Kp.trans HK.out (Kp.trans hka hkb)); have hsz5 := hkb.size_; have hsy5 := hka.size_; (try simp only [World.size_alloc, World.size_drew, World.heap_drewN, World.size_setCell] at hsz5 hsy5); replace HS := Lib.hid hd5.src; clear hka hkb hd5 hlS5; have hlS5 := HS.out.lt
  have hl5 : w4.heap.size + 1 < w5.heap.size := HM.out.lt
  by_cases hx5 : 0 < x5
  rotate_left
  · have hxb : ¬ 0 < x5 := hx5
    go_upto_region 8 with (fail)
    obtain ⟨V2, rfl⟩ : ∃ U : World, U = w5 := ⟨_, rfl⟩
    obtain ⟨fa, rfl⟩ : ∃ z : Int, z = d3 := ⟨_, rfl⟩
    obtain ⟨fb, rfl⟩ : ∃ z : Int, z = t3 := ⟨_, rfl⟩
    have hlX2 := HX.out.lt
    refine wp_region_held_drew (S := fun W => Blk W w2.heap.size 30 #[.int .i64 C.dg, .int .i64 C.tn, .string C.nm, .slice (some ⟨g, 0, none⟩) C.zs.length q, .int .i64 C.wd, .int .i64 C.lf, .int .i64 C.rt] ∧ Blk W (w2.heap.size + 1) 25 #[.int .i64 ud, .int .i64 ut] ∧ Blk W (w2.heap.size + 1 + 1) 25 #[.int .i64 vd, .int .i64 vt] ∧ Blk W w3.heap.size 25 #[.int .i64 fa, .int .i64 fb]) (by kernel_rfl) (⟨HF.out.drew, HU.out.drew, HV.out.drew, HX.out.drew⟩) (fun hHeld => ?_)
    replace HR1 := Lib.hid HR1.out.drew
    replace HR2 := Lib.hid HR2.out.drew
    replace HR3 := Lib.hid HR3.out.drew
    replace HR4 := Lib.hid HR4.out.drew
    replace HF := Lib.hid HF.out.drew
    replace HU := Lib.hid HU.out.drew
    replace HV := Lib.hid HV.out.drew
    replace HX := Lib.hid HX.out.drew
    replace HO := Lib.hid HO.out.drew
    replace HS := Lib.hid HS.out.drew
    replace HK := Lib.hid HK.out.drew
    have hsd : V2.drew.heap.size = V2.heap.size := rfl
    rw [← hsd] at hlX2
    clear hsd
    generalize V2.drew = v2 at HR1 HR2 HR3 HR4 HF HU HV HX HO HS HK hHeld hlX2 ⊢
    refine wpAnyH_take (i := 0) (v := .agg #[.int .i64 C.dg, .int .i64 C.tn, .string C.nm, .slice (some ⟨g, 0, none⟩) C.zs.length q, .int .i64 C.wd, .int .i64 C.lf, .int .i64 C.rt]) rfl (by kernel_rfl) (by kernel_rfl) (by kernel_rfl) (fun _ _ _ h => h) (yieldsIf_load_blk 30 _ (w2.heap.size) (fun _ h => h.1) Try.underlying30 (by kernel_rfl) (by rfl) rfl rfl) hHeld ?_
    simp only [Act.put, List.getElem_toArray, List.getElem_cons_succ, List.getElem_cons_zero, List.setIfInBounds_toArray, List.set_cons_zero, List.set_cons_succ]
    refine wpAnyH_take (i := 1) (v := .agg #[.int .i64 ud, .int .i64 ut]) rfl (by kernel_rfl) (by kernel_rfl) (by kernel_rfl) (fun _ _ _ h => h) (yieldsIf_load_blk 25 _ ((w2.heap.size + 1)) (fun _ h => h.2.1) Try.underlying25 (by kernel_rfl) (by rfl) rfl rfl) hHeld ?_
    simp only [Act.put, List.getElem_toArray, List.getElem_cons_succ, List.getElem_cons_zero, List.setIfInBounds_toArray, List.set_cons_zero, List.set_cons_succ]
    refine wpAnyH_take (i := 2) (v := .agg #[.int .i64 vd, .int .i64 vt]) rfl (by kernel_rfl) (by kernel_rfl) (by kernel_rfl) (fun _ _ _ h => h) (yieldsIf_load_blk 25 _ ((w2.heap.size + 1 + 1)) (fun _ h => h.2.2.1) Try.underlying25 (by kernel_rfl) (by rfl) rfl rfl) hHeld ?_
    simp only [Act.put, List.getElem_toArray, List.getElem_cons_succ, List.getElem_cons_zero, List.setIfInBounds_toArray, List.set_cons_zero, List.set_cons_succ]
    refine wpAnyH_take (i := 3) (v := .agg #[.int .i64 fa, .int .i64 fb]) rfl (by kernel_rfl) (by kernel_rfl) (by kernel_rfl) (fun _ _ _ h => h) (yieldsIf_load_blk 25 _ (w3.heap.size) (fun _ h => h.2.2.2) Try.underlying25 (by kernel_rfl) (by rfl) rfl rfl) hHeld ?_
    simp only [Act.put, List.getElem_toArray, List.getElem_cons_succ, List.getElem_cons_zero, List.setIfInBounds_toArray, List.set_cons_zero, List.set_cons_succ]
    refine wpAnyH_take (i := 4) (v := (.int .i64 x)) rfl (by kernel_rfl) (by kernel_rfl) (by kernel_rfl) (fun _ _ _ h => h) (Or.inl ⟨by rfl, fun w _ => by simp [go_sem, execOp]⟩) hHeld ?_
    simp only [Act.put, List.getElem_toArray, List.getElem_cons_succ, List.getElem_cons_zero, List.setIfInBounds_toArray, List.set_cons_zero, List.set_cons_succ]
    refine wpAnyH_ready (rs := [5]) (by kernel_rfl) (by simp) ?_
    refine AllReadyH.cons rfl (fun K hK => ?_) AllReadyH.nil
    refine step_store_part 30 _ _ _ 0 (.agg #[.int .i64 C.dg, .int .i64 C.tn, .string C.nm, .slice (some ⟨g, 0, none⟩) C.zs.length q, .int .i64 C.wd, .int .i64 C.lf, .int .i64 C.rt]) #[.int .i64 C.dg, .int .i64 C.tn, .string C.nm, .slice (some ⟨g, 0, none⟩) C.zs.length q, .int .i64 C.wd, .int .i64 C.lf, .int .i64 C.rt] (Blk.kp (Kp.ka0 HK.out (by repeat (with_reducible first | exact Kp.refl _ _ | refine Kp.alloc _ ?_ | refine Kp.drew ?_ | refine Kp.drewN _ ?_))) (by first | omega | (simp; omega)) HR1.out) rfl rfl rfl rfl rfl (by rfl) (by kernel_rfl) (by simp [Value.oneCell']) (by simp) ?_; intro wS hBS hkb; simp only [setL, List.setIfInBounds_toArray, List.set_cons_zero, List.set_cons_succ] at hBS; have hka := Kp.ka HK.out hkb (by repeat (with_reducible first | exact Kp.refl _ _ | refine Kp.alloc _ ?_ | refine Kp.drew ?_ | refine Kp.drewN _ ?_)); have hlSo := HS.out.lt; (try (replace HF := Lib.hid (Blk.kp2 hka hkb (by first | omega | (simp; omega)) (by first | omega | (simp; omega)) HF.out))); (try (replace HU := Lib.hid (Blk.kp2 hka hkb (by first | omega | (simp; omega)) (by first | omega | (simp; omega)) HU.out))); (try (replace HV := Lib.hid (Blk.kp2 hka hkb (by first | omega | (simp; omega)) (by first | omega | (simp; omega)) HV.out))); (try (replace HX := Lib.hid (Blk.kp2 hka hkb (by first | omega | (simp; omega)) (by first | omega | (simp; omega)) HX.out))); (try (replace HR2 := Lib.hid (Blk.kp2 hka hkb (by first | omega | (simp; omega)) (by first | omega | (simp; omega)) HR2.out))); (try (replace HR3 := Lib.hid (Blk.kp2 hka hkb (by first | omega | (simp; omega)) (by first | omega | (simp; omega)) HR3.out))); (try (replace HR4 := Lib.hid (Blk.kp2 hka hkb (by first | omega | (simp; omega)) (by first | omega | (simp; omega)) HR4.out))); (try (replace HO := Lib.hid (Own.kp3 hka hkb (by first | omega | (simp; omega)) (by first | omega | (simp; omega)) HO.out))); (try replace HS := Lib.hid (Src.kpg2 HS.out (by repeat (with_reducible first | exact Below.refl _ _ | refine Bel.alloc ?_ _ | refine Below.drew ?_ | refine Bel.drewN ?_ _)) hkb (by first | omega | (simp; omega)))); replace HR1 := Lib.hid hBS; replace HK := Lib.hid (Kp.own hkb (by first | omega | (simp; omega)) (Kp.trans HK.out hka)); have hszS := hkb.size_; have hsyS := hka.size_; (try simp only [World.size_alloc, World.size_drew, World.heap_drewN, World.size_setCell] at hszS hsyS); clear hBS hka hkb hlSo; have hlSS := HS.out.lt
    refine hK.out _ _ (⟨HF.out, HU.out, HV.out, HX.out⟩) (fun hHeld => ?_)
    clear hK K
    try simp only [Act.put, List.setIfInBounds_toArray, List.set_cons_zero, List.set_cons_succ]
    refine wpAnyH_ready (rs := [6]) (by kernel_rfl) (by simp) ?_
    refine AllReadyH.cons rfl (fun K hK => ?_) AllReadyH.nil
    refine step_store_part 25 _ _ _ 0 (.agg #[.int .i64 ud, .int .i64 ut]) #[.int .i64 ud, .int .i64 ut] (Blk.kp (Kp.ka0 HK.out (by repeat (with_reducible first | exact Kp.refl _ _ | refine Kp.alloc _ ?_ | refine Kp.drew ?_ | refine Kp.drewN _ ?_))) (by first | omega | (simp; omega)) HR2.out) rfl rfl rfl rfl rfl (by rfl) (by kernel_rfl) (by simp [Value.oneCell']) (by simp) ?_; intro wS hBS hkb; simp only [setL, List.setIfInBounds_toArray, List.set_cons_zero, List.set_cons_succ] at hBS; have hka := Kp.ka HK.out hkb (by repeat (with_reducible first | exact Kp.refl _ _ | refine Kp.alloc _ ?_ | refine Kp.drew ?_ | refine Kp.drewN _ ?_)); have hlSo := HS.out.lt; (try (replace HF := Lib.hid (Blk.kp2 hka hkb (by first | omega | (simp; omega)) (by first | omega | (simp; omega)) HF.out))); (try (replace HU := Lib.hid (Blk.kp2 hka hkb (by first | omega | (simp; omega)) (by first | omega | (simp; omega)) HU.out))); (try (replace HV := Lib.hid (Blk.kp2 hka hkb (by first | omega | (simp; omega)) (by first | omega | (simp; omega)) HV.out))); (try (replace HX := Lib.hid (Blk.kp2 hka hkb (by first | omega | (simp; omega)) (by first | omega | (simp; omega)) HX.out))); (try (replace HR1 := Lib.hid (Blk.kp2 hka hkb (by first | omega | (simp; omega)) (by first | omega | (simp; omega)) HR1.out))); (try (replace HR3 := Lib.hid (Blk.kp2 hka hkb (by first | omega | (simp; omega)) (by first | omega | (simp; omega)) HR3.out))); (try (replace HR4 := Lib.hid (Blk.kp2 hka hkb (by first | omega | (simp; omega)) (by first | omega | (simp; omega)) HR4.out))); (try (replace HO := Lib.hid (Own.kp3 hka hkb (by first | omega | (simp; omega)) (by first | omega | (simp; omega)) HO.out))); (try replace HS := Lib.hid (Src.kpg2 HS.out (by repeat (with_reducible first | exact Below.refl _ _ | refine Bel.alloc ?_ _ | refine Below.drew ?_ | refine Bel.drewN ?_ _)) hkb (by first | omega | (simp; omega)))); replace HR2 := Lib.hid hBS; replace HK := Lib.hid (Kp.own hkb (by first | omega | (simp; omega)) (Kp.trans HK.out hka)); have hszS := hkb.size_; have hsyS := hka.size_; (try simp only [World.size_alloc, World.size_drew, World.heap_drewN, World.size_setCell] at hszS hsyS); clear hBS hka hkb hlSo; have hlSS := HS.out.lt
    refine hK.out _ _ (⟨HF.out, HU.out, HV.out, HX.out⟩) (fun hHeld => ?_)
    clear hK K
    try simp only [Act.put, List.setIfInBounds_toArray, List.set_cons_zero, List.set_cons_succ]
    refine wpAnyH_ready (rs := [7]) (by kernel_rfl) (by simp) ?_
    refine AllReadyH.cons rfl (fun K hK => ?_) AllReadyH.nil
    refine step_store_part 25 _ _ _ 0 (.agg #[.int .i64 vd, .int .i64 vt]) #[.int .i64 vd, .int .i64 vt] (Blk.kp (Kp.ka0 HK.out (by repeat (with_reducible first | exact Kp.refl _ _ | refine Kp.alloc _ ?_ | refine Kp.drew ?_ | refine Kp.drewN _ ?_))) (by first | omega | (simp; omega)) HR3.out) rfl rfl rfl rfl rfl (by rfl) (by kernel_rfl) (by simp [Value.oneCell']) (by simp) ?_; intro wS hBS hkb; simp only [setL, List.setIfInBounds_toArray, List.set_cons_zero, List.set_cons_succ] at hBS; have hka := Kp.ka HK.out hkb (by repeat (with_reducible first | exact Kp.refl _ _ | refine Kp.alloc _ ?_ | refine Kp.drew ?_ | refine Kp.drewN _ ?_)); have hlSo := HS.out.lt; (try (replace HF := Lib.hid (Blk.kp2 hka hkb (by first | omega | (simp; omega)) (by first | omega | (simp; omega)) HF.out))); (try (replace HU := Lib.hid (Blk.kp2 hka hkb (by first | omega | (simp; omega)) (by first | omega | (simp; omega)) HU.out))); (try (replace HV := Lib.hid (Blk.kp2 hka hkb (by first | omega | (simp; omega)) (by first | omega | (simp; omega)) HV.out))); (try (replace HX := Lib.hid (Blk.kp2 hka hkb (by first | omega | (simp; omega)) (by first | omega | (simp; omega)) HX.out))); (try (replace HR1 := Lib.hid (Blk.kp2 hka hkb (by first | omega | (simp; omega)) (by first | omega | (simp; omega)) HR1.out))); (try (replace HR2 := Lib.hid (Blk.kp2 hka hkb (by first | omega | (simp; omega)) (by first | omega | (simp; omega)) HR2.out))); (try (replace HR4 := Lib.hid (Blk.kp2 hka hkb (by first | omega | (simp; omega)) (by first | omega | (simp; omega)) HR4.out))); (try (replace HO := Lib.hid (Own.kp3 hka hkb (by first | omega | (simp; omega)) (by first | omega | (simp; omega)) HO.out))); (try replace HS := Lib.hid (Src.kpg2 HS.out (by repeat (with_reducible first | exact Below.refl _ _ | refine Bel.alloc ?_ _ | refine Below.drew ?_ | refine Bel.drewN ?_ _)) hkb (by first | omega | (simp; omega)))); replace HR3 := Lib.hid hBS; replace HK := Lib.hid (Kp.own hkb (by first | omega | (simp; omega)) (Kp.trans HK.out hka)); have hszS := hkb.size_; have hsyS := hka.size_; (try simp only [World.size_alloc, World.size_drew, World.heap_drewN, World.size_setCell] at hszS hsyS); clear hBS hka hkb hlSo; have hlSS := HS.out.lt
    refine hK.out _ _ (⟨HF.out, HU.out, HV.out, HX.out⟩) (fun hHeld => ?_)
    clear hK K
    try simp only [Act.put, List.setIfInBounds_toArray, List.set_cons_zero, List.set_cons_succ]
    refine wpAnyH_ready (rs := [8]) (by kernel_rfl) (by simp) ?_
    refine AllReadyH.cons rfl (fun K hK => ?_) AllReadyH.nil
    refine step_store_part 25 _ _ _ 0 (.agg #[.int .i64 fa, .int .i64 fb]) #[.int .i64 fa, .int .i64 fb] (Blk.kp (Kp.ka0 HK.out (by repeat (with_reducible first | exact Kp.refl _ _ | refine Kp.alloc _ ?_ | refine Kp.drew ?_ | refine Kp.drewN _ ?_))) (by first | omega | (simp; omega)) HR4.out) rfl rfl rfl rfl rfl (by rfl) (by kernel_rfl) (by simp [Value.oneCell']) (by simp) ?_; intro wS hBS hkb; simp only [setL, List.setIfInBounds_toArray, List.set_cons_zero, List.set_cons_succ] at hBS; have hka := Kp.ka HK.out hkb (by repeat (with_reducible first | exact Kp.refl _ _ | refine Kp.alloc _ ?_ | refine Kp.drew ?_ | refine Kp.drewN _ ?_)); have hlSo := HS.out.lt; (try (replace HF := Lib.hid (Blk.kp2 hka hkb (by first | omega | (simp; omega)) (by first | omega | (simp; omega)) HF.out))); (try (replace HU := Lib.hid (Blk.kp2 hka hkb (by first | omega | (simp; omega)) (by first | omega | (simp; omega)) HU.out))); (try (replace HV := Lib.hid (Blk.kp2 hka hkb (by first | omega | (simp; omega)) (by first | omega | (simp; omega)) HV.out))); (try (replace HX := Lib.hid (Blk.kp2 hka hkb (by first | omega | (simp; omega)) (by first | omega | (simp; omega)) HX.out))); (try (replace HR1 := Lib.hid (Blk.kp2 hka hkb (by first | omega | (simp; omega)) (by first | omega | (simp; omega)) HR1.out))); (try (replace HR2 := Lib.hid (Blk.kp2 hka hkb (by first | omega | (simp; omega)) (by first | omega | (simp; omega)) HR2.out))); (try (replace HR3 := Lib.hid (Blk.kp2 hka hkb (by first | omega | (simp; omega)) (by first | omega | (simp; omega)) HR3.out))); (try (replace HO := Lib.hid (Own.kp3 hka hkb (by first | omega | (simp; omega)) (by first | omega | (simp; omega)) HO.out))); (try replace HS := Lib.hid (Src.kpg2 HS.out (by repeat (with_reducible first | exact Below.refl _ _ | refine Bel.alloc ?_ _ | refine Below.drew ?_ | refine Bel.drewN ?_ _)) hkb (by first | omega | (simp; omega)))); replace HR4 := Lib.hid hBS; replace HK := Lib.hid (Kp.own hkb (by first | omega | (simp; omega)) (Kp.trans HK.out hka)); have hszS := hkb.size_; have hsyS := hka.size_; (try simp only [World.size_alloc, World.size_drew, World.heap_drewN, World.size_setCell] at hszS hsyS); clear hBS hka hkb hlSo; have hlSS := HS.out.lt
    refine hK.out _ _ (⟨HF.out, HU.out, HV.out, HX.out⟩) (fun hHeld => ?_)
    clear hK K
    try simp only [Act.put, List.setIfInBounds_toArray, List.set_cons_zero, List.set_cons_succ]
    refine wpAnyH_take (i := 9) (v := (.int .i64 x)) rfl (by kernel_rfl) (by kernel_rfl) (by kernel_rfl) (fun _ _ _ h => h) (Or.inl ⟨by rfl, fun w _ => by simp [go_sem, execOp]⟩) hHeld ?_
    simp only [Act.put, List.getElem_toArray, List.getElem_cons_succ, List.getElem_cons_zero, List.setIfInBounds_toArray, List.set_cons_zero, List.set_cons_succ]
    refine wpAnyH_done (by kernel_rfl) ?_ _
    go_wp2
    all_goals exact bodyPost_ret (results_5 rfl (resF_cell HR1.out Try.underlying30 (by kernel_rfl) rfl) (resF_cell HR2.out Try.underlying25 (by kernel_rfl) rfl) (resF_cell HR3.out Try.underlying25 (by kernel_rfl) rfl) (resF_cell HR4.out Try.underlying25 (by kernel_rfl) rfl) (resF_tmp _ rfl)) rfl ⟨C, g, q, ud, ut, vd, vt, fa, fb, x, rfl, by omega, by omega, Own.ge_mono HO.out (by omega), Kp.toBel HK.out (by omega)⟩
  go_upto_region 6 with (fail)
  clear hlV
  have hlV := hl5
  refine wp_region_held_drew (S := fun W => Blk W w4.heap.size 25 #[.int .i64 e0, .int .i64 e1] ∧ Blk W (w4.heap.size + 1) 25 #[.int .i64 e2, .int .i64 e3]) (by kernel_rfl) (⟨HL.out.drew, HM.out.drew⟩) (fun hHeld => ?_)
  replace HR1 := Lib.hid HR1.out.drew
  replace HR2 := Lib.hid HR2.out.drew
  replace HR3 := Lib.hid HR3.out.drew
  replace HR4 := Lib.hid HR4.out.drew
  replace HF := Lib.hid HF.out.drew
  replace HU := Lib.hid HU.out.drew
  replace HV := Lib.hid HV.out.drew
  replace HX := Lib.hid HX.out.drew
  replace HL := Lib.hid HL.out.drew
  replace HM := Lib.hid HM.out.drew
  replace HO := Lib.hid HO.out.drew
  replace HS := Lib.hid HS.out.drew
  replace HK := Lib.hid HK.out.drew
  have hsd : w5.drew.heap.size = w5.heap.size := rfl
  rw [← hsd] at hlV
  clear hsd
  generalize w5.drew = v at HR1 HR2 HR3 HR4 HF HU HV HX HL HM HO HS HK hHeld hlV ⊢
  refine wpAnyH_take (i := 0) (v := .agg #[.int .i64 e0, .int .i64 e1]) rfl (by kernel_rfl) (by kernel_rfl) (by kernel_rfl) (fun _ _ _ h => h) (yieldsIf_load_blk 25 _ (w4.heap.size) (fun _ h => h.1) Try.underlying25 (by kernel_rfl) (by rfl) rfl rfl) hHeld ?_
  simp only [Act.put, List.getElem_toArray, List.getElem_cons_succ, List.getElem_cons_zero, List.setIfInBounds_toArray, List.set_cons_zero, List.set_cons_succ]
  refine wpAnyH_take (i := 1) (v := .agg #[.int .i64 e2, .int .i64 e3]) rfl (by kernel_rfl) (by kernel_rfl) (by kernel_rfl) (fun _ _ _ h => h) (yieldsIf_load_blk 25 _ ((w4.heap.size + 1)) (fun _ h => h.2) Try.underlying25 (by kernel_rfl) (by rfl) rfl rfl) hHeld ?_
  simp only [Act.put, List.getElem_toArray, List.getElem_cons_succ, List.getElem_cons_zero, List.setIfInBounds_toArray, List.set_cons_zero, List.set_cons_succ]
  refine wpAnyH_take (i := 3) (v := (.pointer (some ⟨X, 0, none⟩))) rfl (by kernel_rfl) (by kernel_rfl) (by kernel_rfl) (fun _ _ _ h => h) (Or.inl ⟨by rfl, fun w _ => by simp [go_sem, execOp]⟩) hHeld ?_
  simp only [Act.put, List.getElem_toArray, List.getElem_cons_succ, List.getElem_cons_zero, List.setIfInBounds_toArray, List.set_cons_zero, List.set_cons_succ]
  refine wpAnyH_ready (rs := [2, 4]) (by kernel_rfl) (by simp) ?_
  refine AllReadyH.cons rfl (fun K hK => ?_) (AllReadyH.cons rfl (fun K hK => ?_) (AllReadyH.nil))
  · go_simp
    have HN := Lib.hid (Blk.new v 25 #[.int .i64 e0, .int .i64 e1, .int .i64 e2, .int .i64 e3])
    replace HR1 := Lib.hid (Blk.alloc (.cells #[.int .i64 e0, .int .i64 e1, .int .i64 e2, .int .i64 e3] 25) HR1.out)
    replace HR2 := Lib.hid (Blk.alloc (.cells #[.int .i64 e0, .int .i64 e1, .int .i64 e2, .int .i64 e3] 25) HR2.out)
    replace HR3 := Lib.hid (Blk.alloc (.cells #[.int .i64 e0, .int .i64 e1, .int .i64 e2, .int .i64 e3] 25) HR3.out)
    replace HR4 := Lib.hid (Blk.alloc (.cells #[.int .i64 e0, .int .i64 e1, .int .i64 e2, .int .i64 e3] 25) HR4.out)
    replace HF := Lib.hid (Blk.alloc (.cells #[.int .i64 e0, .int .i64 e1, .int .i64 e2, .int .i64 e3] 25) HF.out)
    replace HU := Lib.hid (Blk.alloc (.cells #[.int .i64 e0, .int .i64 e1, .int .i64 e2, .int .i64 e3] 25) HU.out)
    replace HV := Lib.hid (Blk.alloc (.cells #[.int .i64 e0, .int .i64 e1, .int .i64 e2, .int .i64 e3] 25) HV.out)
    replace HX := Lib.hid (Blk.alloc (.cells #[.int .i64 e0, .int .i64 e1, .int .i64 e2, .int .i64 e3] 25) HX.out)
    replace HL := Lib.hid (Blk.alloc (.cells #[.int .i64 e0, .int .i64 e1, .int .i64 e2, .int .i64 e3] 25) HL.out)
    replace HM := Lib.hid (Blk.alloc (.cells #[.int .i64 e0, .int .i64 e1, .int .i64 e2, .int .i64 e3] 25) HM.out)
    replace HO := Lib.hid (Own.alloc (.cells #[.int .i64 e0, .int .i64 e1, .int .i64 e2, .int .i64 e3] 25) HO.out)
    replace HS := Lib.hid (Src.alloc (.cells #[.int .i64 e0, .int .i64 e1, .int .i64 e2, .int .i64 e3] 25) HS.out)
    replace HK := Lib.hid (Kp.alloc (.cells #[.int .i64 e0, .int .i64 e1, .int .i64 e2, .int .i64 e3] 25) HK.out)
    refine hK.out _ _ (⟨HL.out, HM.out⟩) (fun hHeld => ?_)
    clear hK K
    try simp only [Act.put, List.setIfInBounds_toArray, List.set_cons_zero, List.set_cons_succ]
    refine wpAnyH_ready (rs := [4]) (by kernel_rfl) (by simp) ?_
    refine AllReadyH.cons rfl (fun K hK => ?_) AllReadyH.nil
    go_simp
    go_at_call 112; refine (l01Next_c X A zs _ (by omega) _ (by repeat (with_reducible first | exact HS.out | refine Src.alloc _ ?_ | refine Src.drew ?_ | refine Src.drewN _ ?_ | (refine Src.far _ ?_ ?_; (have := HS.out.lt; first | omega | (simp; omega))) | (refine Src.setRow _ ?_ ?_; (have := HS.out.lt; first | omega | (simp; omega)))))).mono ?_; rintro e w6 ⟨x6, rfl, hx6, hy6, hd6⟩; (try rw [Int.max_eq_left (by omega)] at hy6); have hkb := hd6.kp; have hka := Kp.ka HK.out hkb (by repeat (with_reducible first | exact Kp.refl _ _ | refine Kp.alloc _ ?_ | refine Kp.drew ?_ | refine Kp.drewN _ ?_)); have hlS6 := HS.out.lt; (try (replace HR1 := Lib.hid (Blk.kp2 hka hkb (by first | omega | (simp; omega)) (by first | omega | (simp; omega)) HR1.out))); (try (replace HR2 := Lib.hid (Blk.kp2 hka hkb (by first | omega | (simp; omega)) (by first | omega | (simp; omega)) HR2.out))); (try (replace HR3 := Lib.hid (Blk.kp2 hka hkb (by first | omega | (simp; omega)) (by first | omega | (simp; omega)) HR3.out))); (try (replace HR4 := Lib.hid (Blk.kp2 hka hkb (by first | omega | (simp; omega)) (by first | omega | (simp; omega)) HR4.out))); (try (replace HF := Lib.hid (Blk.kp2 hka hkb (by first | omega | (simp; omega)) (by first | omega | (simp; omega)) HF.out))); (try (replace HU := Lib.hid (Blk.kp2 hka hkb (by first | omega | (simp; omega)) (by first | omega | (simp; omega)) HU.out))); (try (replace HV := Lib.hid (Blk.kp2 hka hkb (by first | omega | (simp; omega)) (by first | omega | (simp; omega)) HV.out))); (try (replace HX := Lib.hid (Blk.kp2 hka hkb (by first | omega | (simp; omega)) (by first | omega | (simp; omega)) HX.out))); (try (replace HL := Lib.hid (Blk.kp2 hka hkb (by first | omega | (simp; omega)) (by first | omega | (simp; omega)) HL.out))); (try (replace HM := Lib.hid (Blk.kp2 hka hkb (by first | omega | (simp; omega)) (by first | omega | (simp; omega)) HM.out))); (try (replace HN := Lib.hid (Blk.kp2 hka hkb (by first | omega | (simp; omega)) (by first | omega | (simp; omega)) HN.out))); (try (replace HO := Lib.hid (Own.kp3 hka hkb (by first | omega | (simp; omega)) (by first | omega | (simp; omega)) HO.out))); replace HK := Lib.hid (Kp.trans HK.out (Kp.trans hka hkb)); have hsz6 := hkb.size_; have hsy6 := hka.size_; (try simp only [World.size_alloc, World.size_drew, World.heap_drewN, World.size_setCell] at hsz6 hsy6); replace HS := Lib.hid hd6.src; clear hka hkb hd6 hlS6; have hlS6 := HS.out.lt
    go_wp2_with fail
    refine hK.out _ _ (⟨HL.out, HM.out⟩) (fun hHeld => ?_)
    clear hK K
    try simp only [Act.put, List.setIfInBounds_toArray, List.set_cons_zero, List.set_cons_succ]
    have hlN := HN.out.lt
    by_cases h6 : x6 = 0
    · subst h6
      have n0 : w6.cell? ⟨v.heap.size, 0, none⟩ = some (.int .i64 e0) := by rw [HN.out.cell]; rfl
      have n1 : w6.cell? ⟨v.heap.size, 1, none⟩ = some (.int .i64 e1) := by rw [HN.out.cell]; rfl
      have n2 : w6.cell? ⟨v.heap.size, 2, none⟩ = some (.int .i64 e2) := by rw [HN.out.cell]; rfl
      have n3 : w6.cell? ⟨v.heap.size, 3, none⟩ = some (.int .i64 e3) := by rw [HN.out.cell]; rfl
      refine wpAnyH_ready (rs := [5]) (by kernel_rfl) (by simp) ?_
      refine AllReadyH.cons rfl (fun K hK => ?_) AllReadyH.nil
      go_simp
      refine hK.out _ _ (⟨HL.out, HM.out⟩) (fun hHeld => ?_)
      clear hK K
      try simp only [Act.put, List.setIfInBounds_toArray, List.set_cons_zero, List.set_cons_succ]
      refine wpAnyH_ready (rs := [6]) (by kernel_rfl) (by simp) ?_
      refine AllReadyH.cons rfl (fun K hK => ?_) AllReadyH.nil
      go_simp
      refine hK.out _ _ (⟨HL.out, HM.out⟩) (fun hHeld => ?_)
      clear hK K
      try simp only [Act.put, List.setIfInBounds_toArray, List.set_cons_zero, List.set_cons_succ]
      clear n0 n1 n2 n3
      refine wpAnyH_ready (rs := [7]) (by kernel_rfl) (by simp) ?_
      refine AllReadyH.cons rfl (fun K hK => ?_) AllReadyH.nil
      refine step_store_part 25 _ _ _ 0 (.agg #[.int .i64 e0, .int .i64 e1]) #[.int .i64 e0, .int .i64 e1] (Blk.kp (Kp.ka0 HK.out (by repeat (with_reducible first | exact Kp.refl _ _ | refine Kp.alloc _ ?_ | refine Kp.drew ?_ | refine Kp.drewN _ ?_))) (by first | omega | (simp; omega)) HX.out) rfl rfl rfl rfl rfl (by rfl) (by kernel_rfl) (by simp [Value.oneCell']) (by simp) ?_; intro wS hBS hkb; simp only [setL, List.setIfInBounds_toArray, List.set_cons_zero, List.set_cons_succ] at hBS; have hka := Kp.ka HK.out hkb (by repeat (with_reducible first | exact Kp.refl _ _ | refine Kp.alloc _ ?_ | refine Kp.drew ?_ | refine Kp.drewN _ ?_)); have hlSo := HS.out.lt; (try (replace HR1 := Lib.hid (Blk.kp2 hka hkb (by first | omega | (simp; omega)) (by first | omega | (simp; omega)) HR1.out))); (try (replace HR2 := Lib.hid (Blk.kp2 hka hkb (by first | omega | (simp; omega)) (by first | omega | (simp; omega)) HR2.out))); (try (replace HR3 := Lib.hid (Blk.kp2 hka hkb (by first | omega | (simp; omega)) (by first | omega | (simp; omega)) HR3.out))); (try (replace HR4 := Lib.hid (Blk.kp2 hka hkb (by first | omega | (simp; omega)) (by first | omega | (simp; omega)) HR4.out))); (try (replace HF := Lib.hid (Blk.kp2 hka hkb (by first | omega | (simp; omega)) (by first | omega | (simp; omega)) HF.out))); (try (replace HU := Lib.hid (Blk.kp2 hka hkb (by first | omega | (simp; omega)) (by first | omega | (simp; omega)) HU.out))); (try (replace HV := Lib.hid (Blk.kp2 hka hkb (by first | omega | (simp; omega)) (by first | omega | (simp; omega)) HV.out))); (try (replace HL := Lib.hid (Blk.kp2 hka hkb (by first | omega | (simp; omega)) (by first | omega | (simp; omega)) HL.out))); (try (replace HM := Lib.hid (Blk.kp2 hka hkb (by first | omega | (simp; omega)) (by first | omega | (simp; omega)) HM.out))); (try (replace HO := Lib.hid (Own.kp3 hka hkb (by first | omega | (simp; omega)) (by first | omega | (simp; omega)) HO.out))); (try replace HS := Lib.hid (Src.kpg2 HS.out (by repeat (with_reducible first | exact Below.refl _ _ | refine Bel.alloc ?_ _ | refine Below.drew ?_ | refine Bel.drewN ?_ _)) hkb (by first | omega | (simp; omega)))); replace HX := Lib.hid hBS; replace HK := Lib.hid (Kp.own hkb (by first | omega | (simp; omega)) (Kp.trans HK.out hka)); have hszS := hkb.size_; have hsyS := hka.size_; (try simp only [World.size_alloc, World.size_drew, World.heap_drewN, World.size_setCell] at hszS hsyS); clear hBS hka hkb hlSo; have hlSS := HS.out.lt
      refine hK.out _ _ (⟨HL.out, HM.out⟩) (fun hHeld => ?_)
      clear hK K
      try simp only [Act.put, List.setIfInBounds_toArray, List.set_cons_zero, List.set_cons_succ]
      refine wpAnyH_done (by kernel_rfl) ?_ _
      obtain ⟨V1, rfl⟩ : ∃ U : World, U = wS := ⟨_, rfl⟩
      obtain ⟨ea, rfl⟩ : ∃ z : Int, z = e0 := ⟨_, rfl⟩
      obtain ⟨eb, rfl⟩ : ∃ z : Int, z = e1 := ⟨_, rfl⟩
      go_upto_region 7 with (fail)
      have hlX1 := HX.out.lt
      refine wp_region_held_drew (S := fun W => True) (by kernel_rfl) (trivial) (fun hHeld => ?_)
      replace HR1 := Lib.hid HR1.out.drew
      replace HR2 := Lib.hid HR2.out.drew
      replace HR3 := Lib.hid HR3.out.drew
      replace HR4 := Lib.hid HR4.out.drew
      replace HF := Lib.hid HF.out.drew
      replace HU := Lib.hid HU.out.drew
      replace HV := Lib.hid HV.out.drew
      replace HX := Lib.hid HX.out.drew
      replace HO := Lib.hid HO.out.drew
      replace HS := Lib.hid HS.out.drew
      replace HK := Lib.hid HK.out.drew
      have hsd : V1.drew.heap.size = V1.heap.size := rfl
      rw [← hsd] at hlX1
      clear hsd
      generalize V1.drew = v1 at HR1 HR2 HR3 HR4 HF HU HV HX HO HS HK hHeld hlX1 ⊢
      refine wpAnyH_take (i := 0) (v := (.pointer (some ⟨w3.heap.size, 0, none⟩))) rfl (by kernel_rfl) (by kernel_rfl) (by kernel_rfl) (fun _ _ _ h => h) (Or.inl ⟨by rfl, fun w _ => by simp [go_sem, execOp]⟩) hHeld ?_
      simp only [Act.put, List.getElem_toArray, List.getElem_cons_succ, List.getElem_cons_zero, List.setIfInBounds_toArray, List.set_cons_zero, List.set_cons_succ]
      refine wpAnyH_take (i := 2) (v := (.pointer (some ⟨X, 0, none⟩))) rfl (by kernel_rfl) (by kernel_rfl) (by kernel_rfl) (fun _ _ _ h => h) (Or.inl ⟨by rfl, fun w _ => by simp [go_sem, execOp]⟩) hHeld ?_
      simp only [Act.put, List.getElem_toArray, List.getElem_cons_succ, List.getElem_cons_zero, List.setIfInBounds_toArray, List.set_cons_zero, List.set_cons_succ]
      refine wpAnyH_ready (rs := [1, 3]) (by kernel_rfl) (by simp) ?_
      refine AllReadyH.cons rfl (fun K hK => ?_) (AllReadyH.cons rfl (fun K hK => ?_) (AllReadyH.nil))
      · have c0 : v1.cell? ⟨w3.heap.size, 0, none⟩ = some (.int .i64 ea) := by rw [HX.out.cell]; rfl
        go_simp
        refine hK.out _ _ (trivial) (fun hHeld => ?_)
        clear hK K
        try simp only [Act.put, List.setIfInBounds_toArray, List.set_cons_zero, List.set_cons_succ]
        clear c0
        refine wpAnyH_ready (rs := [3]) (by kernel_rfl) (by simp) ?_
        refine AllReadyH.cons rfl (fun K hK => ?_) AllReadyH.nil
        go_simp
        go_at_call 112; refine (l01Next_c X A zs _ (by omega) _ (by repeat (with_reducible first | exact HS.out | refine Src.alloc _ ?_ | refine Src.drew ?_ | refine Src.drewN _ ?_ | (refine Src.far _ ?_ ?_; (have := HS.out.lt; first | omega | (simp; omega))) | (refine Src.setRow _ ?_ ?_; (have := HS.out.lt; first | omega | (simp; omega)))))).mono ?_; rintro e w7 ⟨x7, rfl, hx7, hy7, hd7⟩; (try rw [Int.max_eq_left (by omega)] at hy7); have hkb := hd7.kp; have hka := Kp.ka HK.out hkb (by repeat (with_reducible first | exact Kp.refl _ _ | refine Kp.alloc _ ?_ | refine Kp.drew ?_ | refine Kp.drewN _ ?_)); have hlS7 := HS.out.lt; (try (replace HR1 := Lib.hid (Blk.kp2 hka hkb (by first | omega | (simp; omega)) (by first | omega | (simp; omega)) HR1.out))); (try (replace HR2 := Lib.hid (Blk.kp2 hka hkb (by first | omega | (simp; omega)) (by first | omega | (simp; omega)) HR2.out))); (try (replace HR3 := Lib.hid (Blk.kp2 hka hkb (by first | omega | (simp; omega)) (by first | omega | (simp; omega)) HR3.out))); (try (replace HR4 := Lib.hid (Blk.kp2 hka hkb (by first | omega | (simp; omega)) (by first | omega | (simp; omega)) HR4.out))); (try (replace HF := Lib.hid (Blk.kp2 hka hkb (by first | omega | (simp; omega)) (by first | omega | (simp; omega)) HF.out))); (try (replace HU := Lib.hid (Blk.kp2 hka hkb (by first | omega | (simp; omega)) (by first | omega | (simp; omega)) HU.out))); (try (replace HV := Lib.hid (Blk.kp2 hka hkb (by first | omega | (simp; omega)) (by first | omega | (simp; omega)) HV.out))); (try (replace HX := Lib.hid (Blk.kp2 hka hkb (by first | omega | (simp; omega)) (by first | omega | (simp; omega)) HX.out))); (try (replace HO := Lib.hid (Own.kp3 hka hkb (by first | omega | (simp; omega)) (by first | omega | (simp; omega)) HO.out))); replace HK := Lib.hid (Kp.trans HK.out (Kp.trans hka hkb)); have hsz7 := hkb.size_; have hsy7 := hka.size_; (try simp only [World.size_alloc, World.size_drew, World.heap_drewN, World.size_setCell] at hsz7 hsy7); replace HS := Lib.hid hd7.src; clear hka hkb hd7 hlS7; have hlS7 := HS.out.lt
        go_wp2_with fail
        refine hK.out _ _ (trivial) (fun hHeld => ?_)
        clear hK K
        try simp only [Act.put, List.setIfInBounds_toArray, List.set_cons_zero, List.set_cons_succ]
        refine wpAnyH_ready (rs := [4]) (by kernel_rfl) (by simp) ?_
        refine AllReadyH.cons rfl (fun K hK => ?_) AllReadyH.nil
        go_simp
        refine hK.out _ _ (trivial) (fun hHeld => ?_)
        clear hK K
        try simp only [Act.put, List.setIfInBounds_toArray, List.set_cons_zero, List.set_cons_succ]
        refine wpAnyH_ready (rs := [5]) (by kernel_rfl) (by simp) ?_
        refine AllReadyH.cons rfl (fun K hK => ?_) AllReadyH.nil
        go_simp
        refine hK.out _ _ (trivial) (fun hHeld => ?_)
        clear hK K
        try simp only [Act.put, List.setIfInBounds_toArray, List.set_cons_zero, List.set_cons_succ]
        refine wpAnyH_ready (rs := [6]) (by kernel_rfl) (by simp) ?_
        refine AllReadyH.cons rfl (fun K hK => ?_) AllReadyH.nil
        go_simp
        refine hK.out _ _ (trivial) (fun hHeld => ?_)
        clear hK K
        try simp only [Act.put, List.setIfInBounds_toArray, List.set_cons_zero, List.set_cons_succ]
        refine wpAnyH_ready (rs := [7]) (by kernel_rfl) (by simp) ?_
        refine AllReadyH.cons rfl (fun K hK => ?_) AllReadyH.nil
        go_simp
        refine hK.out _ _ (trivial) (fun hHeld => ?_)
        clear hK K
        try simp only [Act.put, List.setIfInBounds_toArray, List.set_cons_zero, List.set_cons_succ]
        refine wpAnyH_take (i := 8) (v := (.pointer (some ⟨w3.heap.size, 0, none⟩))) rfl (by kernel_rfl) (by kernel_rfl) (by kernel_rfl) (fun _ _ _ h => h) (Or.inl ⟨by rfl, fun w _ => by simp [go_sem, execOp]⟩) hHeld ?_
        simp only [Act.put, List.getElem_toArray, List.getElem_cons_succ, List.getElem_cons_zero, List.setIfInBounds_toArray, List.set_cons_zero, List.set_cons_succ]
        refine wpAnyH_ready (rs := [9]) (by kernel_rfl) (by simp) ?_
        refine AllReadyH.cons rfl (fun K hK => ?_) AllReadyH.nil
        refine step_store_part 2 _ _ _ 0 _ _ (Blk.kp (Kp.ka0 HK.out (by repeat (with_reducible first | exact Kp.refl _ _ | refine Kp.alloc _ ?_ | refine Kp.drew ?_ | refine Kp.drewN _ ?_))) (by first | omega | (simp; omega)) HX.out) rfl rfl rfl rfl rfl (by rfl) (by kernel_rfl) (by simp [go_sem, Value.cells, Value.oneCell']) (by simp [go_sem, Value.cells]) ?_; intro wS hBS hkb; simp [go_sem, Value.cells, setL] at hBS; have hka := Kp.ka HK.out hkb (by repeat (with_reducible first | exact Kp.refl _ _ | refine Kp.alloc _ ?_ | refine Kp.drew ?_ | refine Kp.drewN _ ?_)); have hlSo := HS.out.lt; (try (replace HR1 := Lib.hid (Blk.kp2 hka hkb (by first | omega | (simp; omega)) (by first | omega | (simp; omega)) HR1.out))); (try (replace HR2 := Lib.hid (Blk.kp2 hka hkb (by first | omega | (simp; omega)) (by first | omega | (simp; omega)) HR2.out))); (try (replace HR3 := Lib.hid (Blk.kp2 hka hkb (by first | omega | (simp; omega)) (by first | omega | (simp; omega)) HR3.out))); (try (replace HR4 := Lib.hid (Blk.kp2 hka hkb (by first | omega | (simp; omega)) (by first | omega | (simp; omega)) HR4.out))); (try (replace HF := Lib.hid (Blk.kp2 hka hkb (by first | omega | (simp; omega)) (by first | omega | (simp; omega)) HF.out))); (try (replace HU := Lib.hid (Blk.kp2 hka hkb (by first | omega | (simp; omega)) (by first | omega | (simp; omega)) HU.out))); (try (replace HV := Lib.hid (Blk.kp2 hka hkb (by first | omega | (simp; omega)) (by first | omega | (simp; omega)) HV.out))); (try (replace HO := Lib.hid (Own.kp3 hka hkb (by first | omega | (simp; omega)) (by first | omega | (simp; omega)) HO.out))); (try replace HS := Lib.hid (Src.kpg2 HS.out (by repeat (with_reducible first | exact Below.refl _ _ | refine Bel.alloc ?_ _ | refine Below.drew ?_ | refine Bel.drewN ?_ _)) hkb (by first | omega | (simp; omega)))); replace HX := Lib.hid hBS; replace HK := Lib.hid (Kp.own hkb (by first | omega | (simp; omega)) (Kp.trans HK.out hka)); have hszS := hkb.size_; have hsyS := hka.size_; (try simp only [World.size_alloc, World.size_drew, World.heap_drewN, World.size_setCell] at hszS hsyS); clear hBS hka hkb hlSo; have hlSS := HS.out.lt
        refine hK.out _ _ (trivial) (fun hHeld => ?_)
        clear hK K
        try simp only [Act.put, List.setIfInBounds_toArray, List.set_cons_zero, List.set_cons_succ]
        refine wpAnyH_done (by kernel_rfl) ?_ _
        have hX2 : ∃ z : Int, Hid (Blk wS w3.heap.size 25 #[.int .i64 z, .int .i64 eb]) := ⟨_, HX⟩
        clear HX
        obtain ⟨fa, HX⟩ := hX2
        go_upto_region 8 with (fail)
        obtain ⟨V2, rfl⟩ : ∃ U : World, U = wS := ⟨_, rfl⟩
        obtain ⟨fb, rfl⟩ : ∃ z : Int, z = eb := ⟨_, rfl⟩
        have hlX2 := HX.out.lt
        refine wp_region_held_drew (S := fun W => Blk W w2.heap.size 30 #[.int .i64 C.dg, .int .i64 C.tn, .string C.nm, .slice (some ⟨g, 0, none⟩) C.zs.length q, .int .i64 C.wd, .int .i64 C.lf, .int .i64 C.rt] ∧ Blk W (w2.heap.size + 1) 25 #[.int .i64 ud, .int .i64 ut] ∧ Blk W (w2.heap.size + 1 + 1) 25 #[.int .i64 vd, .int .i64 vt] ∧ Blk W w3.heap.size 25 #[.int .i64 fa, .int .i64 fb]) (by kernel_rfl) (⟨HF.out.drew, HU.out.drew, HV.out.drew, HX.out.drew⟩) (fun hHeld => ?_)
        replace HR1 := Lib.hid HR1.out.drew
        replace HR2 := Lib.hid HR2.out.drew
        replace HR3 := Lib.hid HR3.out.drew
        replace HR4 := Lib.hid HR4.out.drew
        replace HF := Lib.hid HF.out.drew
        replace HU := Lib.hid HU.out.drew
        replace HV := Lib.hid HV.out.drew
        replace HX := Lib.hid HX.out.drew
        replace HO := Lib.hid HO.out.drew
        replace HS := Lib.hid HS.out.drew
        replace HK := Lib.hid HK.out.drew
        have hsd : V2.drew.heap.size = V2.heap.size := rfl
        rw [← hsd] at hlX2
        clear hsd
        generalize V2.drew = v2 at HR1 HR2 HR3 HR4 HF HU HV HX HO HS HK hHeld hlX2 ⊢
        refine wpAnyH_take (i := 0) (v := .agg #[.int .i64 C.dg, .int .i64 C.tn, .string C.nm, .slice (some ⟨g, 0, none⟩) C.zs.length q, .int .i64 C.wd, .int .i64 C.lf, .int .i64 C.rt]) rfl (by kernel_rfl) (by kernel_rfl) (by kernel_rfl) (fun _ _ _ h => h) (yieldsIf_load_blk 30 _ (w2.heap.size) (fun _ h => h.1) Try.underlying30 (by kernel_rfl) (by rfl) rfl rfl) hHeld ?_
        simp only [Act.put, List.getElem_toArray, List.getElem_cons_succ, List.getElem_cons_zero, List.setIfInBounds_toArray, List.set_cons_zero, List.set_cons_succ]
        refine wpAnyH_take (i := 1) (v := .agg #[.int .i64 ud, .int .i64 ut]) rfl (by kernel_rfl) (by kernel_rfl) (by kernel_rfl) (fun _ _ _ h => h) (yieldsIf_load_blk 25 _ ((w2.heap.size + 1)) (fun _ h => h.2.1) Try.underlying25 (by kernel_rfl) (by rfl) rfl rfl) hHeld ?_
        simp only [Act.put, List.getElem_toArray, List.getElem_cons_succ, List.getElem_cons_zero, List.setIfInBounds_toArray, List.set_cons_zero, List.set_cons_succ]
        refine wpAnyH_take (i := 2) (v := .agg #[.int .i64 vd, .int .i64 vt]) rfl (by kernel_rfl) (by kernel_rfl) (by kernel_rfl) (fun _ _ _ h => h) (yieldsIf_load_blk 25 _ ((w2.heap.size + 1 + 1)) (fun _ h => h.2.2.1) Try.underlying25 (by kernel_rfl) (by rfl) rfl rfl) hHeld ?_
        simp only [Act.put, List.getElem_toArray, List.getElem_cons_succ, List.getElem_cons_zero, List.setIfInBounds_toArray, List.set_cons_zero, List.set_cons_succ]
        refine wpAnyH_take (i := 3) (v := .agg #[.int .i64 fa, .int .i64 fb]) rfl (by kernel_rfl) (by kernel_rfl) (by kernel_rfl) (fun _ _ _ h => h) (yieldsIf_load_blk 25 _ (w3.heap.size) (fun _ h => h.2.2.2) Try.underlying25 (by kernel_rfl) (by rfl) rfl rfl) hHeld ?_
        simp only [Act.put, List.getElem_toArray, List.getElem_cons_succ, List.getElem_cons_zero, List.setIfInBounds_toArray, List.set_cons_zero, List.set_cons_succ]
        refine wpAnyH_take (i := 4) (v := (.int .i64 x)) rfl (by kernel_rfl) (by kernel_rfl) (by kernel_rfl) (fun _ _ _ h => h) (Or.inl ⟨by rfl, fun w _ => by simp [go_sem, execOp]⟩) hHeld ?_
        simp only [Act.put, List.getElem_toArray, List.getElem_cons_succ, List.getElem_cons_zero, List.setIfInBounds_toArray, List.set_cons_zero, List.set_cons_succ]
        refine wpAnyH_ready (rs := [5]) (by kernel_rfl) (by simp) ?_
        refine AllReadyH.cons rfl (fun K hK => ?_) AllReadyH.nil
        refine step_store_part 30 _ _ _ 0 (.agg #[.int .i64 C.dg, .int .i64 C.tn, .string C.nm, .slice (some ⟨g, 0, none⟩) C.zs.length q, .int .i64 C.wd, .int .i64 C.lf, .int .i64 C.rt]) #[.int .i64 C.dg, .int .i64 C.tn, .string C.nm, .slice (some ⟨g, 0, none⟩) C.zs.length q, .int .i64 C.wd, .int .i64 C.lf, .int .i64 C.rt] (Blk.kp (Kp.ka0 HK.out (by repeat (with_reducible first | exact Kp.refl _ _ | refine Kp.alloc _ ?_ | refine Kp.drew ?_ | refine Kp.drewN _ ?_))) (by first | omega | (simp; omega)) HR1.out) rfl rfl rfl rfl rfl (by rfl) (by kernel_rfl) (by simp [Value.oneCell']) (by simp) ?_; intro wS hBS hkb; simp only [setL, List.setIfInBounds_toArray, List.set_cons_zero, List.set_cons_succ] at hBS; have hka := Kp.ka HK.out hkb (by repeat (with_reducible first | exact Kp.refl _ _ | refine Kp.alloc _ ?_ | refine Kp.drew ?_ | refine Kp.drewN _ ?_)); have hlSo := HS.out.lt; (try (replace HF := Lib.hid (Blk.kp2 hka hkb (by first | omega | (simp; omega)) (by first | omega | (simp; omega)) HF.out))); (try (replace HU := Lib.hid (Blk.kp2 hka hkb (by first | omega | (simp; omega)) (by first | omega | (simp; omega)) HU.out))); (try (replace HV := Lib.hid (Blk.kp2 hka hkb (by first | omega | (simp; omega)) (by first | omega | (simp; omega)) HV.out))); (try (replace HX := Lib.hid (Blk.kp2 hka hkb (by first | omega | (simp; omega)) (by first | omega | (simp; omega)) HX.out))); (try (replace HR2 := Lib.hid (Blk.kp2 hka hkb (by first | omega | (simp; omega)) (by first | omega | (simp; omega)) HR2.out))); (try (replace HR3 := Lib.hid (Blk.kp2 hka hkb (by first | omega | (simp; omega)) (by first | omega | (simp; omega)) HR3.out))); (try (replace HR4 := Lib.hid (Blk.kp2 hka hkb (by first | omega | (simp; omega)) (by first | omega | (simp; omega)) HR4.out))); (try (replace HO := Lib.hid (Own.kp3 hka hkb (by first | omega | (simp; omega)) (by first | omega | (simp; omega)) HO.out))); (try replace HS := Lib.hid (Src.kpg2 HS.out (by repeat (with_reducible first | exact Below.refl _ _ | refine Bel.alloc ?_ _ | refine Below.drew ?_ | refine Bel.drewN ?_ _)) hkb (by first | omega | (simp; omega)))); replace HR1 := Lib.hid hBS; replace HK := Lib.hid (Kp.own hkb (by first | omega | (simp; omega)) (Kp.trans HK.out hka)); have hszS := hkb.size_; have hsyS := hka.size_; (try simp only [World.size_alloc, World.size_drew, World.heap_drewN, World.size_setCell] at hszS hsyS); clear hBS hka hkb hlSo; have hlSS := HS.out.lt
        refine hK.out _ _ (⟨HF.out, HU.out, HV.out, HX.out⟩) (fun hHeld => ?_)
        clear hK K
        try simp only [Act.put, List.setIfInBounds_toArray, List.set_cons_zero, List.set_cons_succ]
        refine wpAnyH_ready (rs := [6]) (by kernel_rfl) (by simp) ?_
        refine AllReadyH.cons rfl (fun K hK => ?_) AllReadyH.nil
        refine step_store_part 25 _ _ _ 0 (.agg #[.int .i64 ud, .int .i64 ut]) #[.int .i64 ud, .int .i64 ut] (Blk.kp (Kp.ka0 HK.out (by repeat (with_reducible first | exact Kp.refl _ _ | refine Kp.alloc _ ?_ | refine Kp.drew ?_ | refine Kp.drewN _ ?_))) (by first | omega | (simp; omega)) HR2.out) rfl rfl rfl rfl rfl (by rfl) (by kernel_rfl) (by simp [Value.oneCell']) (by simp) ?_; intro wS hBS hkb; simp only [setL, List.setIfInBounds_toArray, List.set_cons_zero, List.set_cons_succ] at hBS; have hka := Kp.ka HK.out hkb (by repeat (with_reducible first | exact Kp.refl _ _ | refine Kp.alloc _ ?_ | refine Kp.drew ?_ | refine Kp.drewN _ ?_)); have hlSo := HS.out.lt; (try (replace HF := Lib.hid (Blk.kp2 hka hkb (by first | omega | (simp; omega)) (by first | omega | (simp; omega)) HF.out))); (try (replace HU := Lib.hid (Blk.kp2 hka hkb (by first | omega | (simp; omega)) (by first | omega | (simp; omega)) HU.out))); (try (replace HV := Lib.hid (Blk.kp2 hka hkb (by first | omega | (simp; omega)) (by first | omega | (simp; omega)) HV.out))); (try (replace HX := Lib.hid (Blk.kp2 hka hkb (by first | omega | (simp; omega)) (by first | omega | (simp; omega)) HX.out))); (try (replace HR1 := Lib.hid (Blk.kp2 hka hkb (by first | omega | (simp; omega)) (by first | omega | (simp; omega)) HR1.out))); (try (replace HR3 := Lib.hid (Blk.kp2 hka hkb (by first | omega | (simp; omega)) (by first | omega | (simp; omega)) HR3.out))); (try (replace HR4 := Lib.hid (Blk.kp2 hka hkb (by first | omega | (simp; omega)) (by first | omega | (simp; omega)) HR4.out))); (try (replace HO := Lib.hid (Own.kp3 hka hkb (by first | omega | (simp; omega)) (by first | omega | (simp; omega)) HO.out))); (try replace HS := Lib.hid (Src.kpg2 HS.out (by repeat (with_reducible first | exact Below.refl _ _ | refine Bel.alloc ?_ _ | refine Below.drew ?_ | refine Bel.drewN ?_ _)) hkb (by first | omega | (simp; omega)))); replace HR2 := Lib.hid hBS; replace HK := Lib.hid (Kp.own hkb (by first | omega | (simp; omega)) (Kp.trans HK.out hka)); have hszS := hkb.size_; have hsyS := hka.size_; (try simp only [World.size_alloc, World.size_drew, World.heap_drewN, World.size_setCell] at hszS hsyS); clear hBS hka hkb hlSo; have hlSS := HS.out.lt
        refine hK.out _ _ (⟨HF.out, HU.out, HV.out, HX.out⟩) (fun hHeld => ?_)
        clear hK K
        try simp only [Act.put, List.setIfInBounds_toArray, List.set_cons_zero, List.set_cons_succ]
        refine wpAnyH_ready (rs := [7]) (by kernel_rfl) (by simp) ?_
        refine AllReadyH.cons rfl (fun K hK => ?_) AllReadyH.nil
        refine step_store_part 25 _ _ _ 0 (.agg #[.int .i64 vd, .int .i64 vt]) #[.int .i64 vd, .int .i64 vt] (Blk.kp (Kp.ka0 HK.out (by repeat (with_reducible first | exact Kp.refl _ _ | refine Kp.alloc _ ?_ | refine Kp.drew ?_ | refine Kp.drewN _ ?_))) (by first | omega | (simp; omega)) HR3.out) rfl rfl rfl rfl rfl (by rfl) (by kernel_rfl) (by simp [Value.oneCell']) (by simp) ?_; intro wS hBS hkb; simp only [setL, List.setIfInBounds_toArray, List.set_cons_zero, List.set_cons_succ] at hBS; have hka := Kp.ka HK.out hkb (by repeat (with_reducible first | exact Kp.refl _ _ | refine Kp.alloc _ ?_ | refine Kp.drew ?_ | refine Kp.drewN _ ?_)); have hlSo := HS.out.lt; (try (replace HF := Lib.hid (Blk.kp2 hka hkb (by first | omega | (simp; omega)) (by first | omega | (simp; omega)) HF.out))); (try (replace HU := Lib.hid (Blk.kp2 hka hkb (by first | omega | (simp; omega)) (by first | omega | (simp; omega)) HU.out))); (try (replace HV := Lib.hid (Blk.kp2 hka hkb (by first | omega | (simp; omega)) (by first | omega | (simp; omega)) HV.out))); (try (replace HX := Lib.hid (Blk.kp2 hka hkb (by first | omega | (simp; omega)) (by first | omega | (simp; omega)) HX.out))); (try (replace HR1 := Lib.hid (Blk.kp2 hka hkb (by first | omega | (simp; omega)) (by first | omega | (simp; omega)) HR1.out))); (try (replace HR2 := Lib.hid (Blk.kp2 hka hkb (by first | omega | (simp; omega)) (by first | omega | (simp; omega)) HR2.out))); (try (replace HR4 := Lib.hid (Blk.kp2 hka hkb (by first | omega | (simp; omega)) (by first | omega | (simp; omega)) HR4.out))); (try (replace HO := Lib.hid (Own.kp3 hka hkb (by first | omega | (simp; omega)) (by first | omega | (simp; omega)) HO.out))); (try replace HS := Lib.hid (Src.kpg2 HS.out (by repeat (with_reducible first | exact Below.refl _ _ | refine Bel.alloc ?_ _ | refine Below.drew ?_ | refine Bel.drewN ?_ _)) hkb (by first | omega | (simp; omega)))); replace HR3 := Lib.hid hBS; replace HK := Lib.hid (Kp.own hkb (by first | omega | (simp; omega)) (Kp.trans HK.out hka)); have hszS := hkb.size_; have hsyS := hka.size_; (try simp only [World.size_alloc, World.size_drew, World.heap_drewN, World.size_setCell] at hszS hsyS); clear hBS hka hkb hlSo; have hlSS := HS.out.lt
        refine hK.out _ _ (⟨HF.out, HU.out, HV.out, HX.out⟩) (fun hHeld => ?_)
        clear hK K
        try simp only [Act.put, List.setIfInBounds_toArray, List.set_cons_zero, List.set_cons_succ]
        refine wpAnyH_ready (rs := [8]) (by kernel_rfl) (by simp) ?_
        refine AllReadyH.cons rfl (fun K hK => ?_) AllReadyH.nil
        refine step_store_part 25 _ _ _ 0 (.agg #[.int .i64 fa, .int .i64 fb]) #[.int .i64 fa, .int .i64 fb] (Blk.kp (Kp.ka0 HK.out (by repeat (with_reducible first | exact Kp.refl _ _ | refine Kp.alloc _ ?_ | refine Kp.drew ?_ | refine Kp.drewN _ ?_))) (by first | omega | (simp; omega)) HR4.out) rfl rfl rfl rfl rfl (by rfl) (by kernel_rfl) (by simp [Value.oneCell']) (by simp) ?_; intro wS hBS hkb; simp only [setL, List.setIfInBounds_toArray, List.set_cons_zero, List.set_cons_succ] at hBS; have hka := Kp.ka HK.out hkb (by repeat (with_reducible first | exact Kp.refl _ _ | refine Kp.alloc _ ?_ | refine Kp.drew ?_ | refine Kp.drewN _ ?_)); have hlSo := HS.out.lt; (try (replace HF := Lib.hid (Blk.kp2 hka hkb (by first | omega | (simp; omega)) (by first | omega | (simp; omega)) HF.out))); (try (replace HU := Lib.hid (Blk.kp2 hka hkb (by first | omega | (simp; omega)) (by first | omega | (simp; omega)) HU.out))); (try (replace HV := Lib.hid (Blk.kp2 hka hkb (by first | omega | (simp; omega)) (by first | omega | (simp; omega)) HV.out))); (try (replace HX := Lib.hid (Blk.kp2 hka hkb (by first | omega | (simp; omega)) (by first | omega | (simp; omega)) HX.out))); (try (replace HR1 := Lib.hid (Blk.kp2 hka hkb (by first | omega | (simp; omega)) (by first | omega | (simp; omega)) HR1.out))); (try (replace HR2 := Lib.hid (Blk.kp2 hka hkb (by first | omega | (simp; omega)) (by first | omega | (simp; omega)) HR2.out))); (try (replace HR3 := Lib.hid (Blk.kp2 hka hkb (by first | omega | (simp; omega)) (by first | omega | (simp; omega)) HR3.out))); (try (replace HO := Lib.hid (Own.kp3 hka hkb (by first | omega | (simp; omega)) (by first | omega | (simp; omega)) HO.out))); (try replace HS := Lib.hid (Src.kpg2 HS.out (by repeat (with_reducible first | exact Below.refl _ _ | refine Bel.alloc ?_ _ | refine Below.drew ?_ | refine Bel.drewN ?_ _)) hkb (by first | omega | (simp; omega)))); replace HR4 := Lib.hid hBS; replace HK := Lib.hid (Kp.own hkb (by first | omega | (simp; omega)) (Kp.trans HK.out hka)); have hszS := hkb.size_; have hsyS := hka.size_; (try simp only [World.size_alloc, World.size_drew, World.heap_drewN, World.size_setCell] at hszS hsyS); clear hBS hka hkb hlSo; have hlSS := HS.out.lt
        refine hK.out _ _ (⟨HF.out, HU.out, HV.out, HX.out⟩) (fun hHeld => ?_)
        clear hK K
        try simp only [Act.put, List.setIfInBounds_toArray, List.set_cons_zero, List.set_cons_succ]
        refine wpAnyH_take (i := 9) (v := (.int .i64 x)) rfl (by kernel_rfl) (by kernel_rfl) (by kernel_rfl) (fun _ _ _ h => h) (Or.inl ⟨by rfl, fun w _ => by simp [go_sem, execOp]⟩) hHeld ?_
        simp only [Act.put, List.getElem_toArray, List.getElem_cons_succ, List.getElem_cons_zero, List.setIfInBounds_toArray, List.set_cons_zero, List.set_cons_succ]
        refine wpAnyH_done (by kernel_rfl) ?_ _
        go_wp2
        all_goals exact bodyPost_ret (results_5 rfl (resF_cell HR1.out Try.underlying30 (by kernel_rfl) rfl) (resF_cell HR2.out Try.underlying25 (by kernel_rfl) rfl) (resF_cell HR3.out Try.underlying25 (by kernel_rfl) rfl) (resF_cell HR4.out Try.underlying25 (by kernel_rfl) rfl) (resF_tmp _ rfl)) rfl ⟨C, g, q, ud, ut, vd, vt, fa, fb, x, rfl, by omega, by omega, Own.ge_mono HO.out (by omega), Kp.toBel HK.out (by omega)⟩
      · go_simp
        go_at_call 112; refine (l01Next_c X A zs _ (by omega) _ (by repeat (with_reducible first | exact HS.out | refine Src.alloc _ ?_ | refine Src.drew ?_ | refine Src.drewN _ ?_ | (refine Src.far _ ?_ ?_; (have := HS.out.lt; first | omega | (simp; omega))) | (refine Src.setRow _ ?_ ?_; (have := HS.out.lt; first | omega | (simp; omega)))))).mono ?_; rintro e w7 ⟨x7, rfl, hx7, hy7, hd7⟩; (try rw [Int.max_eq_left (by omega)] at hy7); have hkb := hd7.kp; have hka := Kp.ka HK.out hkb (by repeat (with_reducible first | exact Kp.refl _ _ | refine Kp.alloc _ ?_ | refine Kp.drew ?_ | refine Kp.drewN _ ?_)); have hlS7 := HS.out.lt; (try (replace HR1 := Lib.hid (Blk.kp2 hka hkb (by first | omega | (simp; omega)) (by first | omega | (simp; omega)) HR1.out))); (try (replace HR2 := Lib.hid (Blk.kp2 hka hkb (by first | omega | (simp; omega)) (by first | omega | (simp; omega)) HR2.out))); (try (replace HR3 := Lib.hid (Blk.kp2 hka hkb (by first | omega | (simp; omega)) (by first | omega | (simp; omega)) HR3.out))); (try (replace HR4 := Lib.hid (Blk.kp2 hka hkb (by first | omega | (simp; omega)) (by first | omega | (simp; omega)) HR4.out))); (try (replace HF := Lib.hid (Blk.kp2 hka hkb (by first | omega | (simp; omega)) (by first | omega | (simp; omega)) HF.out))); (try (replace HU := Lib.hid (Blk.kp2 hka hkb (by first | omega | (simp; omega)) (by first | omega | (simp; omega)) HU.out))); (try (replace HV := Lib.hid (Blk.kp2 hka hkb (by first | omega | (simp; omega)) (by first | omega | (simp; omega)) HV.out))); (try (replace HX := Lib.hid (Blk.kp2 hka hkb (by first | omega | (simp; omega)) (by first | omega | (simp; omega)) HX.out))); (try (replace HO := Lib.hid (Own.kp3 hka hkb (by first | omega | (simp; omega)) (by first | omega | (simp; omega)) HO.out))); replace HK := Lib.hid (Kp.trans HK.out (Kp.trans hka hkb)); have hsz7 := hkb.size_; have hsy7 := hka.size_; (try simp only [World.size_alloc, World.size_drew, World.heap_drewN, World.size_setCell] at hsz7 hsy7); replace HS := Lib.hid hd7.src; clear hka hkb hd7 hlS7; have hlS7 := HS.out.lt
        refine hK.out _ _ (trivial) (fun hHeld => ?_)
        clear hK K
        try simp only [Act.put, List.setIfInBounds_toArray, List.set_cons_zero, List.set_cons_succ]
        have c0 : w7.cell? ⟨w3.heap.size, 0, none⟩ = some (.int .i64 ea) := by rw [HX.out.cell]; rfl
        refine wpAnyH_ready (rs := [1]) (by kernel_rfl) (by simp) ?_
        refine AllReadyH.cons rfl (fun K hK => ?_) AllReadyH.nil
        go_simp
        refine hK.out _ _ (trivial) (fun hHeld => ?_)
        clear hK K
        try simp only [Act.put, List.setIfInBounds_toArray, List.set_cons_zero, List.set_cons_succ]
        clear c0
        refine wpAnyH_ready (rs := [4]) (by kernel_rfl) (by simp) ?_
        refine AllReadyH.cons rfl (fun K hK => ?_) AllReadyH.nil
        go_simp
        refine hK.out _ _ (trivial) (fun hHeld => ?_)
        clear hK K
        try simp only [Act.put, List.setIfInBounds_toArray, List.set_cons_zero, List.set_cons_succ]
        refine wpAnyH_ready (rs := [5]) (by kernel_rfl) (by simp) ?_
        refine AllReadyH.cons rfl (fun K hK => ?_) AllReadyH.nil
        go_simp
        refine hK.out _ _ (trivial) (fun hHeld => ?_)
        clear hK K
        try simp only [Act.put, List.setIfInBounds_toArray, List.set_cons_zero, List.set_cons_succ]
        refine wpAnyH_ready (rs := [6]) (by kernel_rfl) (by simp) ?_
        refine AllReadyH.cons rfl (fun K hK => ?_) AllReadyH.nil
        go_simp
        refine hK.out _ _ (trivial) (fun hHeld => ?_)
        clear hK K
        try simp only [Act.put, List.setIfInBounds_toArray, List.set_cons_zero, List.set_cons_succ]
        refine wpAnyH_ready (rs := [7]) (by kernel_rfl) (by simp) ?_
        refine AllReadyH.cons rfl (fun K hK => ?_) AllReadyH.nil
        go_simp
        refine hK.out _ _ (trivial) (fun hHeld => ?_)
        clear hK K
        try simp only [Act.put, List.setIfInBounds_toArray, List.set_cons_zero, List.set_cons_succ]
        refine wpAnyH_take (i := 8) (v := (.pointer (some ⟨w3.heap.size, 0, none⟩))) rfl (by kernel_rfl) (by kernel_rfl) (by kernel_rfl) (fun _ _ _ h => h) (Or.inl ⟨by rfl, fun w _ => by simp [go_sem, execOp]⟩) hHeld ?_
        simp only [Act.put, List.getElem_toArray, List.getElem_cons_succ, List.getElem_cons_zero, List.setIfInBounds_toArray, List.set_cons_zero, List.set_cons_succ]
        refine wpAnyH_ready (rs := [9]) (by kernel_rfl) (by simp) ?_
        refine AllReadyH.cons rfl (fun K hK => ?_) AllReadyH.nil
        refine step_store_part 2 _ _ _ 0 _ _ (Blk.kp (Kp.ka0 HK.out (by repeat (with_reducible first | exact Kp.refl _ _ | refine Kp.alloc _ ?_ | refine Kp.drew ?_ | refine Kp.drewN _ ?_))) (by first | omega | (simp; omega)) HX.out) rfl rfl rfl rfl rfl (by rfl) (by kernel_rfl) (by simp [go_sem, Value.cells, Value.oneCell']) (by simp [go_sem, Value.cells]) ?_; intro wS hBS hkb; simp [go_sem, Value.cells, setL] at hBS; have hka := Kp.ka HK.out hkb (by repeat (with_reducible first | exact Kp.refl _ _ | refine Kp.alloc _ ?_ | refine Kp.drew ?_ | refine Kp.drewN _ ?_)); have hlSo := HS.out.lt; (try (replace HR1 := Lib.hid (Blk.kp2 hka hkb (by first | omega | (simp; omega)) (by first | omega | (simp; omega)) HR1.out))); (try (replace HR2 := Lib.hid (Blk.kp2 hka hkb (by first | omega | (simp; omega)) (by first | omega | (simp; omega)) HR2.out))); (try (replace HR3 := Lib.hid (Blk.kp2 hka hkb (by first | omega | (simp; omega)) (by first | omega | (simp; omega)) HR3.out))); (try (replace HR4 := Lib.hid (Blk.kp2 hka hkb (by first | omega | (simp; omega)) (by first | omega | (simp; omega)) HR4.out))); (try (replace HF := Lib.hid (Blk.kp2 hka hkb (by first | omega | (simp; omega)) (by first | omega | (simp; omega)) HF.out))); (try (replace HU := Lib.hid (Blk.kp2 hka hkb (by first | omega | (simp; omega)) (by first | omega | (simp; omega)) HU.out))); (try (replace HV := Lib.hid (Blk.kp2 hka hkb (by first | omega | (simp; omega)) (by first | omega | (simp; omega)) HV.out))); (try (replace HO := Lib.hid (Own.kp3 hka hkb (by first | omega | (simp; omega)) (by first | omega | (simp; omega)) HO.out))); (try replace HS := Lib.hid (Src.kpg2 HS.out (by repeat (with_reducible first | exact Below.refl _ _ | refine Bel.alloc ?_ _ | refine Below.drew ?_ | refine Bel.drewN ?_ _)) hkb (by first | omega | (simp; omega)))); replace HX := Lib.hid hBS; replace HK := Lib.hid (Kp.own hkb (by first | omega | (simp; omega)) (Kp.trans HK.out hka)); have hszS := hkb.size_; have hsyS := hka.size_; (try simp only [World.size_alloc, World.size_drew, World.heap_drewN, World.size_setCell] at hszS hsyS); clear hBS hka hkb hlSo; have hlSS := HS.out.lt
        refine hK.out _ _ (trivial) (fun hHeld => ?_)
        clear hK K
        try simp only [Act.put, List.setIfInBounds_toArray, List.set_cons_zero, List.set_cons_succ]
        refine wpAnyH_done (by kernel_rfl) ?_ _
        have hX2 : ∃ z : Int, Hid (Blk wS w3.heap.size 25 #[.int .i64 z, .int .i64 eb]) := ⟨_, HX⟩
        clear HX
        obtain ⟨fa, HX⟩ := hX2
        go_upto_region 8 with (fail)
        obtain ⟨V2, rfl⟩ : ∃ U : World, U = wS := ⟨_, rfl⟩
        obtain ⟨fb, rfl⟩ : ∃ z : Int, z = eb := ⟨_, rfl⟩
        have hlX2 := HX.out.lt
        refine wp_region_held_drew (S := fun W => Blk W w2.heap.size 30 #[.int .i64 C.dg, .int .i64 C.tn, .string C.nm, .slice (some ⟨g, 0, none⟩) C.zs.length q, .int .i64 C.wd, .int .i64 C.lf, .int .i64 C.rt] ∧ Blk W (w2.heap.size + 1) 25 #[.int .i64 ud, .int .i64 ut] ∧ Blk W (w2.heap.size + 1 + 1) 25 #[.int .i64 vd, .int .i64 vt] ∧ Blk W w3.heap.size 25 #[.int .i64 fa, .int .i64 fb]) (by kernel_rfl) (⟨HF.out.drew, HU.out.drew, HV.out.drew, HX.out.drew⟩) (fun hHeld => ?_)
        replace HR1 := Lib.hid HR1.out.drew
        replace HR2 := Lib.hid HR2.out.drew
        replace HR3 := Lib.hid HR3.out.drew
        replace HR4 := Lib.hid HR4.out.drew
        replace HF := Lib.hid HF.out.drew
        replace HU := Lib.hid HU.out.drew
        replace HV := Lib.hid HV.out.drew
        replace HX := Lib.hid HX.out.drew
        replace HO := Lib.hid HO.out.drew
        replace HS := Lib.hid HS.out.drew
        replace HK := Lib.hid HK.out.drew
        have hsd : V2.drew.heap.size = V2.heap.size := rfl
        rw [← hsd] at hlX2
        clear hsd
        generalize V2.drew = v2 at HR1 HR2 HR3 HR4 HF HU HV HX HO HS HK hHeld hlX2 ⊢
        refine wpAnyH_take (i := 0) (v := .agg #[.int .i64 C.dg, .int .i64 C.tn, .string C.nm, .slice (some ⟨g, 0, none⟩) C.zs.length q, .int .i64 C.wd, .int .i64 C.lf, .int .i64 C.rt]) rfl (by kernel_rfl) (by kernel_rfl) (by kernel_rfl) (fun _ _ _ h => h) (yieldsIf_load_blk 30 _ (w2.heap.size) (fun _ h => h.1) Try.underlying30 (by kernel_rfl) (by rfl) rfl rfl) hHeld ?_
        simp only [Act.put, List.getElem_toArray, List.getElem_cons_succ, List.getElem_cons_zero, List.setIfInBounds_toArray, List.set_cons_zero, List.set_cons_succ]
        refine wpAnyH_take (i := 1) (v := .agg #[.int .i64 ud, .int .i64 ut]) rfl (by kernel_rfl) (by kernel_rfl) (by kernel_rfl) (fun _ _ _ h => h) (yieldsIf_load_blk 25 _ ((w2.heap.size + 1)) (fun _ h => h.2.1) Try.underlying25 (by kernel_rfl) (by rfl) rfl rfl) hHeld ?_
        simp only [Act.put, List.getElem_toArray, List.getElem_cons_succ, List.getElem_cons_zero, List.setIfInBounds_toArray, List.set_cons_zero, List.set_cons_succ]
        refine wpAnyH_take (i := 2) (v := .agg #[.int .i64 vd, .int .i64 vt]) rfl (by kernel_rfl) (by kernel_rfl) (by kernel_rfl) (fun _ _ _ h => h) (yieldsIf_load_blk 25 _ ((w2.heap.size + 1 + 1)) (fun _ h => h.2.2.1) Try.underlying25 (by kernel_rfl) (by rfl) rfl rfl) hHeld ?_
        simp only [Act.put, List.getElem_toArray, List.getElem_cons_succ, List.getElem_cons_zero, List.setIfInBounds_toArray, List.set_cons_zero, List.set_cons_succ]
        refine wpAnyH_take (i := 3) (v := .agg #[.int .i64 fa, .int .i64 fb]) rfl (by kernel_rfl) (by kernel_rfl) (by kernel_rfl) (fun _ _ _ h => h) (yieldsIf_load_blk 25 _ (w3.heap.size) (fun _ h => h.2.2.2) Try.underlying25 (by kernel_rfl) (by rfl) rfl rfl) hHeld ?_
        simp only [Act.put, List.getElem_toArray, List.getElem_cons_succ, List.getElem_cons_zero, List.setIfInBounds_toArray, List.set_cons_zero, List.set_cons_succ]
        refine wpAnyH_take (i := 4) (v := (.int .i64 x)) rfl (by kernel_rfl) (by kernel_rfl) (by kernel_rfl) (fun _ _ _ h => h) (Or.inl ⟨by rfl, fun w _ => by simp [go_sem, execOp]⟩) hHeld ?_
        simp only [Act.put, List.getElem_toArray, List.getElem_cons_succ, List.getElem_cons_zero, List.setIfInBounds_toArray, List.set_cons_zero, List.set_cons_succ]
        refine wpAnyH_ready (rs := [5]) (by kernel_rfl) (by simp) ?_
        refine AllReadyH.cons rfl (fun K hK => ?_) AllReadyH.nil
        refine step_store_part 30 _ _ _ 0 (.agg #[.int .i64 C.dg, .int .i64 C.tn, .string C.nm, .slice (some ⟨g, 0, none⟩) C.zs.length q, .int .i64 C.wd, .int .i64 C.lf, .int .i64 C.rt]) #[.int .i64 C.dg, .int .i64 C.tn, .string C.nm, .slice (some ⟨g, 0, none⟩) C.zs.length q, .int .i64 C.wd, .int .i64 C.lf, .int .i64 C.rt] (Blk.kp (Kp.ka0 HK.out (by repeat (with_reducible first | exact Kp.refl _ _ | refine Kp.alloc _ ?_ | refine Kp.drew ?_ | refine Kp.drewN _ ?_))) (by first | omega | (simp; omega)) HR1.out) rfl rfl rfl rfl rfl (by rfl) (by kernel_rfl) (by simp [Value.oneCell']) (by simp) ?_; intro wS hBS hkb; simp only [setL, List.setIfInBounds_toArray, List.set_cons_zero, List.set_cons_succ] at hBS; have hka := Kp.ka HK.out hkb (by repeat (with_reducible first | exact Kp.refl _ _ | refine Kp.alloc _ ?_ | refine Kp.drew ?_ | refine Kp.drewN _ ?_)); have hlSo := HS.out.lt; (try (replace HF := Lib.hid (Blk.kp2 hka hkb (by first | omega | (simp; omega)) (by first | omega | (simp; omega)) HF.out))); (try (replace HU := Lib.hid (Blk.kp2 hka hkb (by first | omega | (simp; omega)) (by first | omega | (simp; omega)) HU.out))); (try (replace HV := Lib.hid (Blk.kp2 hka hkb (by first | omega | (simp; omega)) (by first | omega | (simp; omega)) HV.out))); (try (replace HX := Lib.hid (Blk.kp2 hka hkb (by first | omega | (simp; omega)) (by first | omega | (simp; omega)) HX.out))); (try (replace HR2 := Lib.hid (Blk.kp2 hka hkb (by first | omega | (simp; omega)) (by first | omega | (simp; omega)) HR2.out))); (try (replace HR3 := Lib.hid (Blk.kp2 hka hkb (by first | omega | (simp; omega)) (by first | omega | (simp; omega)) HR3.out))); (try (replace HR4 := Lib.hid (Blk.kp2 hka hkb (by first | omega | (simp; omega)) (by first | omega | (simp; omega)) HR4.out))); (try (replace HO := Lib.hid (Own.kp3 hka hkb (by first | omega | (simp; omega)) (by first | omega | (simp; omega)) HO.out))); (try replace HS := Lib.hid (Src.kpg2 HS.out (by repeat (with_reducible first | exact Below.refl _ _ | refine Bel.alloc ?_ _ | refine Below.drew ?_ | refine Bel.drewN ?_ _)) hkb (by first | omega | (simp; omega)))); replace HR1 := Lib.hid hBS; replace HK := Lib.hid (Kp.own hkb (by first | omega | (simp; omega)) (Kp.trans HK.out hka)); have hszS := hkb.size_; have hsyS := hka.size_; (try simp only [World.size_alloc, World.size_drew, World.heap_drewN, World.size_setCell] at hszS hsyS); clear hBS hka hkb hlSo; have hlSS := HS.out.lt
        refine hK.out _ _ (⟨HF.out, HU.out, HV.out, HX.out⟩) (fun hHeld => ?_)
        clear hK K
        try simp only [Act.put, List.setIfInBounds_toArray, List.set_cons_zero, List.set_cons_succ]
        refine wpAnyH_ready (rs := [6]) (by kernel_rfl) (by simp) ?_
        refine AllReadyH.cons rfl (fun K hK => ?_) AllReadyH.nil
        refine step_store_part 25 _ _ _ 0 (.agg #[.int .i64 ud, .int .i64 ut]) #[.int .i64 ud, .int .i64 ut] (Blk.kp (Kp.ka0 HK.out (by repeat (with_reducible first | exact Kp.refl _ _ | refine Kp.alloc _ ?_ | refine Kp.drew ?_ | refine Kp.drewN _ ?_))) (by first | omega | (simp; omega)) HR2.out) rfl rfl rfl rfl rfl (by rfl) (by kernel_rfl) (by simp [Value.oneCell']) (by simp) ?_; intro wS hBS hkb; simp only [setL, List.setIfInBounds_toArray, List.set_cons_zero, List.set_cons_succ] at hBS; have hka := Kp.ka HK.out hkb (by repeat (with_reducible first | exact Kp.refl _ _ | refine Kp.alloc _ ?_ | refine Kp.drew ?_ | refine Kp.drewN _ ?_)); have hlSo := HS.out.lt; (try (replace HF := Lib.hid (Blk.kp2 hka hkb (by first | omega | (simp; omega)) (by first | omega | (simp; omega)) HF.out))); (try (replace HU := Lib.hid (Blk.kp2 hka hkb (by first | omega | (simp; omega)) (by first | omega | (simp; omega)) HU.out))); (try (replace HV := Lib.hid (Blk.kp2 hka hkb (by first | omega | (simp; omega)) (by first | omega | (simp; omega)) HV.out))); (try (replace HX := Lib.hid (Blk.kp2 hka hkb (by first | omega | (simp; omega)) (by first | omega | (simp; omega)) HX.out))); (try (replace HR1 := Lib.hid (Blk.kp2 hka hkb (by first | omega | (simp; omega)) (by first | omega | (simp; omega)) HR1.out))); (try (replace HR3 := Lib.hid (Blk.kp2 hka hkb (by first | omega | (simp; omega)) (by first | omega | (simp; omega)) HR3.out))); (try (replace HR4 := Lib.hid (Blk.kp2 hka hkb (by first | omega | (simp; omega)) (by first | omega | (simp; omega)) HR4.out))); (try (replace HO := Lib.hid (Own.kp3 hka hkb (by first | omega | (simp; omega)) (by first | omega | (simp; omega)) HO.out))); (try replace HS := Lib.hid (Src.kpg2 HS.out (by repeat (with_reducible first | exact Below.refl _ _ | refine Bel.alloc ?_ _ | refine Below.drew ?_ | refine Bel.drewN ?_ _)) hkb (by first | omega | (simp; omega)))); replace HR2 := Lib.hid hBS; replace HK := Lib.hid (Kp.own hkb (by first | omega | (simp; omega)) (Kp.trans HK.out hka)); have hszS := hkb.size_; have hsyS := hka.size_; (try simp only [World.size_alloc, World.size_drew, World.heap_drewN, World.size_setCell] at hszS hsyS); clear hBS hka hkb hlSo; have hlSS := HS.out.lt
        refine hK.out _ _ (⟨HF.out, HU.out, HV.out, HX.out⟩) (fun hHeld => ?_)
        clear hK K
        try simp only [Act.put, List.setIfInBounds_toArray, List.set_cons_zero, List.set_cons_succ]
        refine wpAnyH_ready (rs := [7]) (by kernel_rfl) (by simp) ?_
        refine AllReadyH.cons rfl (fun K hK => ?_) AllReadyH.nil
        refine step_store_part 25 _ _ _ 0 (.agg #[.int .i64 vd, .int .i64 vt]) #[.int .i64 vd, .int .i64 vt] (Blk.kp (Kp.ka0 HK.out (by repeat (with_reducible first | exact Kp.refl _ _ | refine Kp.alloc _ ?_ | refine Kp.drew ?_ | refine Kp.drewN _ ?_))) (by first | omega | (simp; omega)) HR3.out) rfl rfl rfl rfl rfl (by rfl) (by kernel_rfl) (by simp [Value.oneCell']) (by simp) ?_; intro wS hBS hkb; simp only [setL, List.setIfInBounds_toArray, List.set_cons_zero, List.set_cons_succ] at hBS; have hka := Kp.ka HK.out hkb (by repeat (with_reducible first | exact Kp.refl _ _ | refine Kp.alloc _ ?_ | refine Kp.drew ?_ | refine Kp.drewN _ ?_)); have hlSo := HS.out.lt; (try (replace HF := Lib.hid (Blk.kp2 hka hkb (by first | omega | (simp; omega)) (by first | omega | (simp; omega)) HF.out))); (try (replace HU := Lib.hid (Blk.kp2 hka hkb (by first | omega | (simp; omega)) (by first | omega | (simp; omega)) HU.out))); (try (replace HV := Lib.hid (Blk.kp2 hka hkb (by first | omega | (simp; omega)) (by first | omega | (simp; omega)) HV.out))); (try (replace HX := Lib.hid (Blk.kp2 hka hkb (by first | omega | (simp; omega)) (by first | omega | (simp; omega)) HX.out))); (try (replace HR1 := Lib.hid (Blk.kp2 hka hkb (by first | omega | (simp; omega)) (by first | omega | (simp; omega)) HR1.out))); (try (replace HR2 := Lib.hid (Blk.kp2 hka hkb (by first | omega | (simp; omega)) (by first | omega | (simp; omega)) HR2.out))); (try (replace HR4 := Lib.hid (Blk.kp2 hka hkb (by first | omega | (simp; omega)) (by first | omega | (simp; omega)) HR4.out))); (try (replace HO := Lib.hid (Own.kp3 hka hkb (by first | omega | (simp; omega)) (by first | omega | (simp; omega)) HO.out))); (try replace HS := Lib.hid (Src.kpg2 HS.out (by repeat (with_reducible first | exact Below.refl _ _ | refine Bel.alloc ?_ _ | refine Below.drew ?_ | refine Bel.drewN ?_ _)) hkb (by first | omega | (simp; omega)))); replace HR3 := Lib.hid hBS; replace HK := Lib.hid (Kp.own hkb (by first | omega | (simp; omega)) (Kp.trans HK.out hka)); have hszS := hkb.size_; have hsyS := hka.size_; (try simp only [World.size_alloc, World.size_drew, World.heap_drewN, World.size_setCell] at hszS hsyS); clear hBS hka hkb hlSo; have hlSS := HS.out.lt
        refine hK.out _ _ (⟨HF.out, HU.out, HV.out, HX.out⟩) (fun hHeld => ?_)
        clear hK K
        try simp only [Act.put, List.setIfInBounds_toArray, List.set_cons_zero, List.set_cons_succ]
        refine wpAnyH_ready (rs := [8]) (by kernel_rfl) (by simp) ?_
        refine AllReadyH.cons rfl (fun K hK => ?_) AllReadyH.nil
        refine step_store_part 25 _ _ _ 0 (.agg #[.int .i64 fa, .int .i64 fb]) #[.int .i64 fa, .int .i64 fb] (Blk.kp (Kp.ka0 HK.out (by repeat (with_reducible first | exact Kp.refl _ _ | refine Kp.alloc _ ?_ | refine Kp.drew ?_ | refine Kp.drewN _ ?_))) (by first | omega | (simp; omega)) HR4.out) rfl rfl rfl rfl rfl (by rfl) (by kernel_rfl) (by simp [Value.oneCell']) (by simp) ?_; intro wS hBS hkb; simp only [setL, List.setIfInBounds_toArray, List.set_cons_zero, List.set_cons_succ] at hBS; have hka := Kp.ka HK.out hkb (by repeat (with_reducible first | exact Kp.refl _ _ | refine Kp.alloc _ ?_ | refine Kp.drew ?_ | refine Kp.drewN _ ?_)); have hlSo := HS.out.lt; (try (replace HF := Lib.hid (Blk.kp2 hka hkb (by first | omega | (simp; omega)) (by first | omega | (simp; omega)) HF.out))); (try (replace HU := Lib.hid (Blk.kp2 hka hkb (by first | omega | (simp; omega)) (by first | omega | (simp; omega)) HU.out))); (try (replace HV := Lib.hid (Blk.kp2 hka hkb (by first | omega | (simp; omega)) (by first | omega | (simp; omega)) HV.out))); (try (replace HX := Lib.hid (Blk.kp2 hka hkb (by first | omega | (simp; omega)) (by first | omega | (simp; omega)) HX.out))); (try (replace HR1 := Lib.hid (Blk.kp2 hka hkb (by first | omega | (simp; omega)) (by first | omega | (simp; omega)) HR1.out))); (try (replace HR2 := Lib.hid (Blk.kp2 hka hkb (by first | omega | (simp; omega)) (by first | omega | (simp; omega)) HR2.out))); (try (replace HR3 := Lib.hid (Blk.kp2 hka hkb (by first | omega | (simp; omega)) (by first | omega | (simp; omega)) HR3.out))); (try (replace HO := Lib.hid (Own.kp3 hka hkb (by first | omega | (simp; omega)) (by first | omega | (simp; omega)) HO.out))); (try replace HS := Lib.hid (Src.kpg2 HS.out (by repeat (with_reducible first | exact Below.refl _ _ | refine Bel.alloc ?_ _ | refine Below.drew ?_ | refine Bel.drewN ?_ _)) hkb (by first | omega | (simp; omega)))); replace HR4 := Lib.hid hBS; replace HK := Lib.hid (Kp.own hkb (by first | omega | (simp; omega)) (Kp.trans HK.out hka)); have hszS := hkb.size_; have hsyS := hka.size_; (try simp only [World.size_alloc, World.size_drew, World.heap_drewN, World.size_setCell] at hszS hsyS); clear hBS hka hkb hlSo; have hlSS := HS.out.lt
        refine hK.out _ _ (⟨HF.out, HU.out, HV.out, HX.out⟩) (fun hHeld => ?_)
        clear hK K
        try simp only [Act.put, List.setIfInBounds_toArray, List.set_cons_zero, List.set_cons_succ]
        refine wpAnyH_take (i := 9) (v := (.int .i64 x)) rfl (by kernel_rfl) (by kernel_rfl) (by kernel_rfl) (fun _ _ _ h => h) (Or.inl ⟨by rfl, fun w _ => by simp [go_sem, execOp]⟩) hHeld ?_
        simp only [Act.put, List.getElem_toArray, List.getElem_cons_succ, List.getElem_cons_zero, List.setIfInBounds_toArray, List.set_cons_zero, List.set_cons_succ]
        refine wpAnyH_done (by kernel_rfl) ?_ _
        go_wp2
        all_goals exact bodyPost_ret (results_5 rfl (resF_cell HR1.out Try.underlying30 (by kernel_rfl) rfl) (resF_cell HR2.out Try.underlying25 (by kernel_rfl) rfl) (resF_cell HR3.out Try.underlying25 (by kernel_rfl) rfl) (resF_cell HR4.out Try.underlying25 (by kernel_rfl) rfl) (resF_tmp _ rfl)) rfl ⟨C, g, q, ud, ut, vd, vt, fa, fb, x, rfl, by omega, by omega, Own.ge_mono HO.out (by omega), Kp.toBel HK.out (by omega)⟩
    · obtain rfl : x6 = 1 := by omega
      have n0 : w6.cell? ⟨v.heap.size, 0, none⟩ = some (.int .i64 e0) := by rw [HN.out.cell]; rfl
      have n1 : w6.cell? ⟨v.heap.size, 1, none⟩ = some (.int .i64 e1) := by rw [HN.out.cell]; rfl
      have n2 : w6.cell? ⟨v.heap.size, 2, none⟩ = some (.int .i64 e2) := by rw [HN.out.cell]; rfl
      have n3 : w6.cell? ⟨v.heap.size, 3, none⟩ = some (.int .i64 e3) := by rw [HN.out.cell]; rfl
      refine wpAnyH_ready (rs := [5]) (by kernel_rfl) (by simp) ?_
      refine AllReadyH.cons rfl (fun K hK => ?_) AllReadyH.nil
      go_simp
      refine hK.out _ _ (⟨HL.out, HM.out⟩) (fun hHeld => ?_)
      clear hK K
      try simp only [Act.put, List.setIfInBounds_toArray, List.set_cons_zero, List.set_cons_succ]
      refine wpAnyH_ready (rs := [6]) (by kernel_rfl) (by simp) ?_
      refine AllReadyH.cons rfl (fun K hK => ?_) AllReadyH.nil
      go_simp
      refine hK.out _ _ (⟨HL.out, HM.out⟩) (fun hHeld => ?_)
      clear hK K
      try simp only [Act.put, List.setIfInBounds_toArray, List.set_cons_zero, List.set_cons_succ]
      clear n0 n1 n2 n3
      refine wpAnyH_ready (rs := [7]) (by kernel_rfl) (by simp) ?_
      refine AllReadyH.cons rfl (fun K hK => ?_) AllReadyH.nil
      refine step_store_part 25 _ _ _ 0 (.agg #[.int .i64 e2, .int .i64 e3]) #[.int .i64 e2, .int .i64 e3] (Blk.kp (Kp.ka0 HK.out (by repeat (with_reducible first | exact Kp.refl _ _ | refine Kp.alloc _ ?_ | refine Kp.drew ?_ | refine Kp.drewN _ ?_))) (by first | omega | (simp; omega)) HX.out) rfl rfl rfl rfl rfl (by rfl) (by kernel_rfl) (by simp [Value.oneCell']) (by simp) ?_; intro wS hBS hkb; simp only [setL, List.setIfInBounds_toArray, List.set_cons_zero, List.set_cons_succ] at hBS; have hka := Kp.ka HK.out hkb (by repeat (with_reducible first | exact Kp.refl _ _ | refine Kp.alloc _ ?_ | refine Kp.drew ?_ | refine Kp.drewN _ ?_)); have hlSo := HS.out.lt; (try (replace HR1 := Lib.hid (Blk.kp2 hka hkb (by first | omega | (simp; omega)) (by first | omega | (simp; omega)) HR1.out))); (try (replace HR2 := Lib.hid (Blk.kp2 hka hkb (by first | omega | (simp; omega)) (by first | omega | (simp; omega)) HR2.out))); (try (replace HR3 := Lib.hid (Blk.kp2 hka hkb (by first | omega | (simp; omega)) (by first | omega | (simp; omega)) HR3.out))); (try (replace HR4 := Lib.hid (Blk.kp2 hka hkb (by first | omega | (simp; omega)) (by first | omega | (simp; omega)) HR4.out))); (try (replace HF := Lib.hid (Blk.kp2 hka hkb (by first | omega | (simp; omega)) (by first | omega | (simp; omega)) HF.out))); (try (replace HU := Lib.hid (Blk.kp2 hka hkb (by first | omega | (simp; omega)) (by first | omega | (simp; omega)) HU.out))); (try (replace HV := Lib.hid (Blk.kp2 hka hkb (by first | omega | (simp; omega)) (by first | omega | (simp; omega)) HV.out))); (try (replace HL := Lib.hid (Blk.kp2 hka hkb (by first | omega | (simp; omega)) (by first | omega | (simp; omega)) HL.out))); (try (replace HM := Lib.hid (Blk.kp2 hka hkb (by first | omega | (simp; omega)) (by first | omega | (simp; omega)) HM.out))); (try (replace HO := Lib.hid (Own.kp3 hka hkb (by first | omega | (simp; omega)) (by first | omega | (simp; omega)) HO.out))); (try replace HS := Lib.hid (Src.kpg2 HS.out (by repeat (with_reducible first | exact Below.refl _ _ | refine Bel.alloc ?_ _ | refine Below.drew ?_ | refine Bel.drewN ?_ _)) hkb (by first | omega | (simp; omega)))); replace HX := Lib.hid hBS; replace HK := Lib.hid (Kp.own hkb (by first | omega | (simp; omega)) (Kp.trans HK.out hka)); have hszS := hkb.size_; have hsyS := hka.size_; (try simp only [World.size_alloc, World.size_drew, World.heap_drewN, World.size_setCell] at hszS hsyS); clear hBS hka hkb hlSo; have hlSS := HS.out.lt
      refine hK.out _ _ (⟨HL.out, HM.out⟩) (fun hHeld => ?_)
      clear hK K
      try simp only [Act.put, List.setIfInBounds_toArray, List.set_cons_zero, List.set_cons_succ]
      refine wpAnyH_done (by kernel_rfl) ?_ _
      obtain ⟨V1, rfl⟩ : ∃ U : World, U = wS := ⟨_, rfl⟩
      obtain ⟨ea, rfl⟩ : ∃ z : Int, z = e2 := ⟨_, rfl⟩
      obtain ⟨eb, rfl⟩ : ∃ z : Int, z = e3 := ⟨_, rfl⟩
      go_upto_region 7 with (fail)
      have hlX1 := HX.out.lt
      refine wp_region_held_drew (S := fun W => True) (by kernel_rfl) (trivial) (fun hHeld => ?_)
      replace HR1 := Lib.hid HR1.out.drew
      replace HR2 := Lib.hid HR2.out.drew
      replace HR3 := Lib.hid HR3.out.drew
      replace HR4 := Lib.hid HR4.out.drew
      replace HF := Lib.hid HF.out.drew
      replace HU := Lib.hid HU.out.drew
      replace HV := Lib.hid HV.out.drew
      replace HX := Lib.hid HX.out.drew
      replace HO := Lib.hid HO.out.drew
      replace HS := Lib.hid HS.out.drew
      replace HK := Lib.hid HK.out.drew
      have hsd : V1.drew.heap.size = V1.heap.size := rfl
      rw [← hsd] at hlX1
      clear hsd
      generalize V1.drew = v1 at HR1 HR2 HR3 HR4 HF HU HV HX HO HS HK hHeld hlX1 ⊢
      refine wpAnyH_take (i := 0) (v := (.pointer (some ⟨w3.heap.size, 0, none⟩))) rfl (by kernel_rfl) (by kernel_rfl) (by kernel_rfl) (fun _ _ _ h => h) (Or.inl ⟨by rfl, fun w _ => by simp [go_sem, execOp]⟩) hHeld ?_
      simp only [Act.put, List.getElem_toArray, List.getElem_cons_succ, List.getElem_cons_zero, List.setIfInBounds_toArray, List.set_cons_zero, List.set_cons_succ]
      refine wpAnyH_take (i := 2) (v := (.pointer (some ⟨X, 0, none⟩))) rfl (by kernel_rfl) (by kernel_rfl) (by kernel_rfl) (fun _ _ _ h => h) (Or.inl ⟨by rfl, fun w _ => by simp [go_sem, execOp]⟩) hHeld ?_
      simp only [Act.put, List.getElem_toArray, List.getElem_cons_succ, List.getElem_cons_zero, List.setIfInBounds_toArray, List.set_cons_zero, List.set_cons_succ]
      refine wpAnyH_ready (rs := [1, 3]) (by kernel_rfl) (by simp) ?_
      refine AllReadyH.cons rfl (fun K hK => ?_) (AllReadyH.cons rfl (fun K hK => ?_) (AllReadyH.nil))
      · have c0 : v1.cell? ⟨w3.heap.size, 0, none⟩ = some (.int .i64 ea) := by rw [HX.out.cell]; rfl
        go_simp
        refine hK.out _ _ (trivial) (fun hHeld => ?_)
        clear hK K
        try simp only [Act.put, List.setIfInBounds_toArray, List.set_cons_zero, List.set_cons_succ]
        clear c0
        refine wpAnyH_ready (rs := [3]) (by kernel_rfl) (by simp) ?_
        refine AllReadyH.cons rfl (fun K hK => ?_) AllReadyH.nil
        go_simp
        go_at_call 112; refine (l01Next_c X A zs _ (by omega) _ (by repeat (with_reducible first | exact HS.out | refine Src.alloc _ ?_ | refine Src.drew ?_ | refine Src.drewN _ ?_ | (refine Src.far _ ?_ ?_; (have := HS.out.lt; first | omega | (simp; omega))) | (refine Src.setRow _ ?_ ?_; (have := HS.out.lt; first | omega | (simp; omega)))))).mono ?_; rintro e w7 ⟨x7, rfl, hx7, hy7, hd7⟩; (try rw [Int.max_eq_left (by omega)] at hy7); have hkb := hd7.kp; have hka := Kp.ka HK.out hkb (by repeat (with_reducible first | exact Kp.refl _ _ | refine Kp.alloc _ ?_ | refine Kp.drew ?_ | refine Kp.drewN _ ?_)); have hlS7 := HS.out.lt; (try (replace HR1 := Lib.hid (Blk.kp2 hka hkb (by first | omega | (simp; omega)) (by first | omega | (simp; omega)) HR1.out))); (try (replace HR2 := Lib.hid (Blk.kp2 hka hkb (by first | omega | (simp; omega)) (by first | omega | (simp; omega)) HR2.out))); (try (replace HR3 := Lib.hid (Blk.kp2 hka hkb (by first | omega | (simp; omega)) (by first | omega | (simp; omega)) HR3.out))); (try (replace HR4 := Lib.hid (Blk.kp2 hka hkb (by first | omega | (simp; omega)) (by first | omega | (simp; omega)) HR4.out))); (try (replace HF := Lib.hid (Blk.kp2 hka hkb (by first | omega | (simp; omega)) (by first | omega | (simp; omega)) HF.out))); (try (replace HU := Lib.hid (Blk.kp2 hka hkb (by first | omega | (simp; omega)) (by first | omega | (simp; omega)) HU.out))); (try (replace HV := Lib.hid (Blk.kp2 hka hkb (by first | omega | (simp; omega)) (by first | omega | (simp; omega)) HV.out))); (try (replace HX := Lib.hid (Blk.kp2 hka hkb (by first | omega | (simp; omega)) (by first | omega | (simp; omega)) HX.out))); (try (replace HO := Lib.hid (Own.kp3 hka hkb (by first | omega | (simp; omega)) (by first | omega | (simp; omega)) HO.out))); replace HK := Lib.hid (Kp.trans HK.out (Kp.trans hka hkb)); have hsz7 := hkb.size_; have hsy7 := hka.size_; (try simp only [World.size_alloc, World.size_drew, World.heap_drewN, World.size_setCell] at hsz7 hsy7); replace HS := Lib.hid hd7.src; clear hka hkb hd7 hlS7; have hlS7 := HS.out.lt
        go_wp2_with fail
        refine hK.out _ _ (trivial) (fun hHeld => ?_)
        clear hK K
        try simp only [Act.put, List.setIfInBounds_toArray, List.set_cons_zero, List.set_cons_succ]
        refine wpAnyH_ready (rs := [4]) (by kernel_rfl) (by simp) ?_
        refine AllReadyH.cons rfl (fun K hK => ?_) AllReadyH.nil
        go_simp
        refine hK.out _ _ (trivial) (fun hHeld => ?_)
        clear hK K
        try simp only [Act.put, List.setIfInBounds_toArray, List.set_cons_zero, List.set_cons_succ]
        refine wpAnyH_ready (rs := [5]) (by kernel_rfl) (by simp) ?_
        refine AllReadyH.cons rfl (fun K hK => ?_) AllReadyH.nil
        go_simp
        refine hK.out _ _ (trivial) (fun hHeld => ?_)
        clear hK K
        try simp only [Act.put, List.setIfInBounds_toArray, List.set_cons_zero, List.set_cons_succ]
        refine wpAnyH_ready (rs := [6]) (by kernel_rfl) (by simp) ?_
        refine AllReadyH.cons rfl (fun K hK => ?_) AllReadyH.nil
        go_simp
        refine hK.out _ _ (trivial) (fun hHeld => ?_)
        clear hK K
        try simp only [Act.put, List.setIfInBounds_toArray, List.set_cons_zero, List.set_cons_succ]
        refine wpAnyH_ready (rs := [7]) (by kernel_rfl) (by simp) ?_
        refine AllReadyH.cons rfl (fun K hK => ?_) AllReadyH.nil
        go_simp
        refine hK.out _ _ (trivial) (fun hHeld => ?_)
        clear hK K
        try simp only [Act.put, List.setIfInBounds_toArray, List.set_cons_zero, List.set_cons_succ]
        refine wpAnyH_take (i := 8) (v := (.pointer (some ⟨w3.heap.size, 0, none⟩))) rfl (by kernel_rfl) (by kernel_rfl) (by kernel_rfl) (fun _ _ _ h => h) (Or.inl ⟨by rfl, fun w _ => by simp [go_sem, execOp]⟩) hHeld ?_
        simp only [Act.put, List.getElem_toArray, List.getElem_cons_succ, List.getElem_cons_zero, List.setIfInBounds_toArray, List.set_cons_zero, List.set_cons_succ]
        refine wpAnyH_ready (rs := [9]) (by kernel_rfl) (by simp) ?_
        refine AllReadyH.cons rfl (fun K hK => ?_) AllReadyH.nil
        refine step_store_part 2 _ _ _ 0 _ _ (Blk.kp (Kp.ka0 HK.out (by repeat (with_reducible first | exact Kp.refl _ _ | refine Kp.alloc _ ?_ | refine Kp.drew ?_ | refine Kp.drewN _ ?_))) (by first | omega | (simp; omega)) HX.out) rfl rfl rfl rfl rfl (by rfl) (by kernel_rfl) (by simp [go_sem, Value.cells, Value.oneCell']) (by simp [go_sem, Value.cells]) ?_; intro wS hBS hkb; simp [go_sem, Value.cells, setL] at hBS; have hka := Kp.ka HK.out hkb (by repeat (with_reducible first | exact Kp.refl _ _ | refine Kp.alloc _ ?_ | refine Kp.drew ?_ | refine Kp.drewN _ ?_)); have hlSo := HS.out.lt; (try (replace HR1 := Lib.hid (Blk.kp2 hka hkb (by first | omega | (simp; omega)) (by first | omega | (simp; omega)) HR1.out))); (try (replace HR2 := Lib.hid (Blk.kp2 hka hkb (by first | omega | (simp; omega)) (by first | omega | (simp; omega)) HR2.out))); (try (replace HR3 := Lib.hid (Blk.kp2 hka hkb (by first | omega | (simp; omega)) (by first | omega | (simp; omega)) HR3.out))); (try (replace HR4 := Lib.hid (Blk.kp2 hka hkb (by first | omega | (simp; omega)) (by first | omega | (simp; omega)) HR4.out))); (try (replace HF := Lib.hid (Blk.kp2 hka hkb (by first | omega | (simp; omega)) (by first | omega | (simp; omega)) HF.out))); (try (replace HU := Lib.hid (Blk.kp2 hka hkb (by first | omega | (simp; omega)) (by first | omega | (simp; omega)) HU.out))); (try (replace HV := Lib.hid (Blk.kp2 hka hkb (by first | omega | (simp; omega)) (by first | omega | (simp; omega)) HV.out))); (try (replace HO := Lib.hid (Own.kp3 hka hkb (by first | omega | (simp; omega)) (by first | omega | (simp; omega)) HO.out))); (try replace HS := Lib.hid (Src.kpg2 HS.out (by repeat (with_reducible first | exact Below.refl _ _ | refine Bel.alloc ?_ _ | refine Below.drew ?_ | refine Bel.drewN ?_ _)) hkb (by first | omega | (simp; omega)))); replace HX := Lib.hid hBS; replace HK := Lib.hid (Kp.own hkb (by first | omega | (simp; omega)) (Kp.trans HK.out hka)); have hszS := hkb.size_; have hsyS := hka.size_; (try simp only [World.size_alloc, World.size_drew, World.heap_drewN, World.size_setCell] at hszS hsyS); clear hBS hka hkb hlSo; have hlSS := HS.out.lt
        refine hK.out _ _ (trivial) (fun hHeld => ?_)
        clear hK K
        try simp only [Act.put, List.setIfInBounds_toArray, List.set_cons_zero, List.set_cons_succ]
        refine wpAnyH_done (by kernel_rfl) ?_ _
        have hX2 : ∃ z : Int, Hid (Blk wS w3.heap.size 25 #[.int .i64 z, .int .i64 eb]) := ⟨_, HX⟩
        clear HX
        obtain ⟨fa, HX⟩ := hX2
        go_upto_region 8 with (fail)
        obtain ⟨V2, rfl⟩ : ∃ U : World, U = wS := ⟨_, rfl⟩
        obtain ⟨fb, rfl⟩ : ∃ z : Int, z = eb := ⟨_, rfl⟩
        have hlX2 := HX.out.lt
        refine wp_region_held_drew (S := fun W => Blk W w2.heap.size 30 #[.int .i64 C.dg, .int .i64 C.tn, .string C.nm, .slice (some ⟨g, 0, none⟩) C.zs.length q, .int .i64 C.wd, .int .i64 C.lf, .int .i64 C.rt] ∧ Blk W (w2.heap.size + 1) 25 #[.int .i64 ud, .int .i64 ut] ∧ Blk W (w2.heap.size + 1 + 1) 25 #[.int .i64 vd, .int .i64 vt] ∧ Blk W w3.heap.size 25 #[.int .i64 fa, .int .i64 fb]) (by kernel_rfl) (⟨HF.out.drew, HU.out.drew, HV.out.drew, HX.out.drew⟩) (fun hHeld => ?_)
        replace HR1 := Lib.hid HR1.out.drew
        replace HR2 := Lib.hid HR2.out.drew
        replace HR3 := Lib.hid HR3.out.drew
        replace HR4 := Lib.hid HR4.out.drew
        replace HF := Lib.hid HF.out.drew
        replace HU := Lib.hid HU.out.drew
        replace HV := Lib.hid HV.out.drew
        replace HX := Lib.hid HX.out.drew
        replace HO := Lib.hid HO.out.drew
        replace HS := Lib.hid HS.out.drew
        replace HK := Lib.hid HK.out.drew
        have hsd : V2.drew.heap.size = V2.heap.size := rfl
        rw [← hsd] at hlX2
        clear hsd
        generalize V2.drew = v2 at HR1 HR2 HR3 HR4 HF HU HV HX HO HS HK hHeld hlX2 ⊢
        refine wpAnyH_take (i := 0) (v := .agg #[.int .i64 C.dg, .int .i64 C.tn, .string C.nm, .slice (some ⟨g, 0, none⟩) C.zs.length q, .int .i64 C.wd, .int .i64 C.lf, .int .i64 C.rt]) rfl (by kernel_rfl) (by kernel_rfl) (by kernel_rfl) (fun _ _ _ h => h) (yieldsIf_load_blk 30 _ (w2.heap.size) (fun _ h => h.1) Try.underlying30 (by kernel_rfl) (by rfl) rfl rfl) hHeld ?_
        simp only [Act.put, List.getElem_toArray, List.getElem_cons_succ, List.getElem_cons_zero, List.setIfInBounds_toArray, List.set_cons_zero, List.set_cons_succ]
        refine wpAnyH_take (i := 1) (v := .agg #[.int .i64 ud, .int .i64 ut]) rfl (by kernel_rfl) (by kernel_rfl) (by kernel_rfl) (fun _ _ _ h => h) (yieldsIf_load_blk 25 _ ((w2.heap.size + 1)) (fun _ h => h.2.1) Try.underlying25 (by kernel_rfl) (by rfl) rfl rfl) hHeld ?_
        simp only [Act.put, List.getElem_toArray, List.getElem_cons_succ, List.getElem_cons_zero, List.setIfInBounds_toArray, List.set_cons_zero, List.set_cons_succ]
        refine wpAnyH_take (i := 2) (v := .agg #[.int .i64 vd, .int .i64 vt]) rfl (by kernel_rfl) (by kernel_rfl) (by kernel_rfl) (fun _ _ _ h => h) (yieldsIf_load_blk 25 _ ((w2.heap.size + 1 + 1)) (fun _ h => h.2.2.1) Try.underlying25 (by kernel_rfl) (by rfl) rfl rfl) hHeld ?_
        simp only [Act.put, List.getElem_toArray, List.getElem_cons_succ, List.getElem_cons_zero, List.setIfInBounds_toArray, List.set_cons_zero, List.set_cons_succ]
        refine wpAnyH_take (i := 3) (v := .agg #[.int .i64 fa, .int .i64 fb]) rfl (by kernel_rfl) (by kernel_rfl) (by kernel_rfl) (fun _ _ _ h => h) (yieldsIf_load_blk 25 _ (w3.heap.size) (fun _ h => h.2.2.2) Try.underlying25 (by kernel_rfl) (by rfl) rfl rfl) hHeld ?_
        simp only [Act.put, List.getElem_toArray, List.getElem_cons_succ, List.getElem_cons_zero, List.setIfInBounds_toArray, List.set_cons_zero, List.set_cons_succ]
        refine wpAnyH_take (i := 4) (v := (.int .i64 x)) rfl (by kernel_rfl) (by kernel_rfl) (by kernel_rfl) (fun _ _ _ h => h) (Or.inl ⟨by rfl, fun w _ => by simp [go_sem, execOp]⟩) hHeld ?_
        simp only [Act.put, List.getElem_toArray, List.getElem_cons_succ, List.getElem_cons_zero, List.setIfInBounds_toArray, List.set_cons_zero, List.set_cons_succ]
        refine wpAnyH_ready (rs := [5]) (by kernel_rfl) (by simp) ?_
        refine AllReadyH.cons rfl (fun K hK => ?_) AllReadyH.nil
        refine step_store_part 30 _ _ _ 0 (.agg #[.int .i64 C.dg, .int .i64 C.tn, .string C.nm, .slice (some ⟨g, 0, none⟩) C.zs.length q, .int .i64 C.wd, .int .i64 C.lf, .int .i64 C.rt]) #[.int .i64 C.dg, .int .i64 C.tn, .string C.nm, .slice (some ⟨g, 0, none⟩) C.zs.length q, .int .i64 C.wd, .int .i64 C.lf, .int .i64 C.rt] (Blk.kp (Kp.ka0 HK.out (by repeat (with_reducible first | exact Kp.refl _ _ | refine Kp.alloc _ ?_ | refine Kp.drew ?_ | refine Kp.drewN _ ?_))) (by first | omega | (simp; omega)) HR1.out) rfl rfl rfl rfl rfl (by rfl) (by kernel_rfl) (by simp [Value.oneCell']) (by simp) ?_; intro wS hBS hkb; simp only [setL, List.setIfInBounds_toArray, List.set_cons_zero, List.set_cons_succ] at hBS; have hka := Kp.ka HK.out hkb (by repeat (with_reducible first | exact Kp.refl _ _ | refine Kp.alloc _ ?_ | refine Kp.drew ?_ | refine Kp.drewN _ ?_)); have hlSo := HS.out.lt; (try (replace HF := Lib.hid (Blk.kp2 hka hkb (by first | omega | (simp; omega)) (by first | omega | (simp; omega)) HF.out))); (try (replace HU := Lib.hid (Blk.kp2 hka hkb (by first | omega | (simp; omega)) (by first | omega | (simp; omega)) HU.out))); (try (replace HV := Lib.hid (Blk.kp2 hka hkb (by first | omega | (simp; omega)) (by first | omega | (simp; omega)) HV.out))); (try (replace HX := Lib.hid (Blk.kp2 hka hkb (by first | omega | (simp; omega)) (by first | omega | (simp; omega)) HX.out))); (try (replace HR2 := Lib.hid (Blk.kp2 hka hkb (by first | omega | (simp; omega)) (by first | omega | (simp; omega)) HR2.out))); (try (replace HR3 := Lib.hid (Blk.kp2 hka hkb (by first | omega | (simp; omega)) (by first | omega | (simp; omega)) HR3.out))); (try (replace HR4 := Lib.hid (Blk.kp2 hka hkb (by first | omega | (simp; omega)) (by first | omega | (simp; omega)) HR4.out))); (try (replace HO := Lib.hid (Own.kp3 hka hkb (by first | omega | (simp; omega)) (by first | omega | (simp; omega)) HO.out))); (try replace HS := Lib.hid (Src.kpg2 HS.out (by repeat (with_reducible first | exact Below.refl _ _ | refine Bel.alloc ?_ _ | refine Below.drew ?_ | refine Bel.drewN ?_ _)) hkb (by first | omega | (simp; omega)))); replace HR1 := Lib.hid hBS; replace HK := Lib.hid (Kp.own hkb (by first | omega | (simp; omega)) (Kp.trans HK.out hka)); have hszS := hkb.size_; have hsyS := hka.size_; (try simp only [World.size_alloc, World.size_drew, World.heap_drewN, World.size_setCell] at hszS hsyS); clear hBS hka hkb hlSo; have hlSS := HS.out.lt
        refine hK.out _ _ (⟨HF.out, HU.out, HV.out, HX.out⟩) (fun hHeld => ?_)
        clear hK K
        try simp only [Act.put, List.setIfInBounds_toArray, List.set_cons_zero, List.set_cons_succ]
        refine wpAnyH_ready (rs := [6]) (by kernel_rfl) (by simp) ?_
        refine AllReadyH.cons rfl (fun K hK => ?_) AllReadyH.nil
        refine step_store_part 25 _ _ _ 0 (.agg #[.int .i64 ud, .int .i64 ut]) #[.int .i64 ud, .int .i64 ut] (Blk.kp (Kp.ka0 HK.out (by repeat (with_reducible first | exact Kp.refl _ _ | refine Kp.alloc _ ?_ | refine Kp.drew ?_ | refine Kp.drewN _ ?_))) (by first | omega | (simp; omega)) HR2.out) rfl rfl rfl rfl rfl (by rfl) (by kernel_rfl) (by simp [Value.oneCell']) (by simp) ?_; intro wS hBS hkb; simp only [setL, List.setIfInBounds_toArray, List.set_cons_zero, List.set_cons_succ] at hBS; have hka := Kp.ka HK.out hkb (by repeat (with_reducible first | exact Kp.refl _ _ | refine Kp.alloc _ ?_ | refine Kp.drew ?_ | refine Kp.drewN _ ?_)); have hlSo := HS.out.lt; (try (replace HF := Lib.hid (Blk.kp2 hka hkb (by first | omega | (simp; omega)) (by first | omega | (simp; omega)) HF.out))); (try (replace HU := Lib.hid (Blk.kp2 hka hkb (by first | omega | (simp; omega)) (by first | omega | (simp; omega)) HU.out))); (try (replace HV := Lib.hid (Blk.kp2 hka hkb (by first | omega | (simp; omega)) (by first | omega | (simp; omega)) HV.out))); (try (replace HX := Lib.hid (Blk.kp2 hka hkb (by first | omega | (simp; omega)) (by first | omega | (simp; omega)) HX.out))); (try (replace HR1 := Lib.hid (Blk.kp2 hka hkb (by first | omega | (simp; omega)) (by first | omega | (simp; omega)) HR1.out))); (try (replace HR3 := Lib.hid (Blk.kp2 hka hkb (by first | omega | (simp; omega)) (by first | omega | (simp; omega)) HR3.out))); (try (replace HR4 := Lib.hid (Blk.kp2 hka hkb (by first | omega | (simp; omega)) (by first | omega | (simp; omega)) HR4.out))); (try (replace HO := Lib.hid (Own.kp3 hka hkb (by first | omega | (simp; omega)) (by first | omega | (simp; omega)) HO.out))); (try replace HS := Lib.hid (Src.kpg2 HS.out (by repeat (with_reducible first | exact Below.refl _ _ | refine Bel.alloc ?_ _ | refine Below.drew ?_ | refine Bel.drewN ?_ _)) hkb (by first | omega | (simp; omega)))); replace HR2 := Lib.hid hBS; replace HK := Lib.hid (Kp.own hkb (by first | omega | (simp; omega)) (Kp.trans HK.out hka)); have hszS := hkb.size_; have hsyS := hka.size_; (try simp only [World.size_alloc, World.size_drew, World.heap_drewN, World.size_setCell] at hszS hsyS); clear hBS hka hkb hlSo; have hlSS := HS.out.lt
        refine hK.out _ _ (⟨HF.out, HU.out, HV.out, HX.out⟩) (fun hHeld => ?_)
        clear hK K
        try simp only [Act.put, List.setIfInBounds_toArray, List.set_cons_zero, List.set_cons_succ]
        refine wpAnyH_ready (rs := [7]) (by kernel_rfl) (by simp) ?_
        refine AllReadyH.cons rfl (fun K hK => ?_) AllReadyH.nil
        refine step_store_part 25 _ _ _ 0 (.agg #[.int .i64 vd, .int .i64 vt]) #[.int .i64 vd, .int .i64 vt] (Blk.kp (Kp.ka0 HK.out (by repeat (with_reducible first | exact Kp.refl _ _ | refine Kp.alloc _ ?_ | refine Kp.drew ?_ | refine Kp.drewN _ ?_))) (by first | omega | (simp; omega)) HR3.out) rfl rfl rfl rfl rfl (by rfl) (by kernel_rfl) (by simp [Value.oneCell']) (by simp) ?_; intro wS hBS hkb; simp only [setL, List.setIfInBounds_toArray, List.set_cons_zero, List.set_cons_succ] at hBS; have hka := Kp.ka HK.out hkb (by repeat (with_reducible first | exact Kp.refl _ _ | refine Kp.alloc _ ?_ | refine Kp.drew ?_ | refine Kp.drewN _ ?_)); have hlSo := HS.out.lt; (try (replace HF := Lib.hid (Blk.kp2 hka hkb (by first | omega | (simp; omega)) (by first | omega | (simp; omega)) HF.out))); (try (replace HU := Lib.hid (Blk.kp2 hka hkb (by first | omega | (simp; omega)) (by first | omega | (simp; omega)) HU.out))); (try (replace HV := Lib.hid (Blk.kp2 hka hkb (by first | omega | (simp; omega)) (by first | omega | (simp; omega)) HV.out))); (try (replace HX := Lib.hid (Blk.kp2 hka hkb (by first | omega | (simp; omega)) (by first | omega | (simp; omega)) HX.out))); (try (replace HR1 := Lib.hid (Blk.kp2 hka hkb (by first | omega | (simp; omega)) (by first | omega | (simp; omega)) HR1.out))); (try (replace HR2 := Lib.hid (Blk.kp2 hka hkb (by first | omega | (simp; omega)) (by first | omega | (simp; omega)) HR2.out))); (try (replace HR4 := Lib.hid (Blk.kp2 hka hkb (by first | omega | (simp; omega)) (by first | omega | (simp; omega)) HR4.out))); (try (replace HO := Lib.hid (Own.kp3 hka hkb (by first | omega | (simp; omega)) (by first | omega | (simp; omega)) HO.out))); (try replace HS := Lib.hid (Src.kpg2 HS.out (by repeat (with_reducible first | exact Below.refl _ _ | refine Bel.alloc ?_ _ | refine Below.drew ?_ | refine Bel.drewN ?_ _)) hkb (by first | omega | (simp; omega)))); replace HR3 := Lib.hid hBS; replace HK := Lib.hid (Kp.own hkb (by first | omega | (simp; omega)) (Kp.trans HK.out hka)); have hszS := hkb.size_; have hsyS := hka.size_; (try simp only [World.size_alloc, World.size_drew, World.heap_drewN, World.size_setCell] at hszS hsyS); clear hBS hka hkb hlSo; have hlSS := HS.out.lt
        refine hK.out _ _ (⟨HF.out, HU.out, HV.out, HX.out⟩) (fun hHeld => ?_)
        clear hK K
        try simp only [Act.put, List.setIfInBounds_toArray, List.set_cons_zero, List.set_cons_succ]
        refine wpAnyH_ready (rs := [8]) (by kernel_rfl) (by simp) ?_
        refine AllReadyH.cons rfl (fun K hK => ?_) AllReadyH.nil
        refine step_store_part 25 _ _ _ 0 (.agg #[.int .i64 fa, .int .i64 fb]) #[.int .i64 fa, .int .i64 fb] (Blk.kp (Kp.ka0 HK.out (by repeat (with_reducible first | exact Kp.refl _ _ | refine Kp.alloc _ ?_ | refine Kp.drew ?_ | refine Kp.drewN _ ?_))) (by first | omega | (simp; omega)) HR4.out) rfl rfl rfl rfl rfl (by rfl) (by kernel_rfl) (by simp [Value.oneCell']) (by simp) ?_; intro wS hBS hkb; simp only [setL, List.setIfInBounds_toArray, List.set_cons_zero, List.set_cons_succ] at hBS; have hka := Kp.ka HK.out hkb (by repeat (with_reducible first | exact Kp.refl _ _ | refine Kp.alloc _ ?_ | refine Kp.drew ?_ | refine Kp.drewN _ ?_)); have hlSo := HS.out.lt; (try (replace HF := Lib.hid (Blk.kp2 hka hkb (by first | omega | (simp; omega)) (by first | omega | (simp; omega)) HF.out))); (try (replace HU := Lib.hid (Blk.kp2 hka hkb (by first | omega | (simp; omega)) (by first | omega | (simp; omega)) HU.out))); (try (replace HV := Lib.hid (Blk.kp2 hka hkb (by first | omega | (simp; omega)) (by first | omega | (simp; omega)) HV.out))); (try (replace HX := Lib.hid (Blk.kp2 hka hkb (by first | omega | (simp; omega)) (by first | omega | (simp; omega)) HX.out))); (try (replace HR1 := Lib.hid (Blk.kp2 hka hkb (by first | omega | (simp; omega)) (by first | omega | (simp; omega)) HR1.out))); (try (replace HR2 := Lib.hid (Blk.kp2 hka hkb (by first | omega | (simp; omega)) (by first | omega | (simp; omega)) HR2.out))); (try (replace HR3 := Lib.hid (Blk.kp2 hka hkb (by first | omega | (simp; omega)) (by first | omega | (simp; omega)) HR3.out))); (try (replace HO := Lib.hid (Own.kp3 hka hkb (by first | omega | (simp; omega)) (by first | omega | (simp; omega)) HO.out))); (try replace HS := Lib.hid (Src.kpg2 HS.out (by repeat (with_reducible first | exact Below.refl _ _ | refine Bel.alloc ?_ _ | refine Below.drew ?_ | refine Bel.drewN ?_ _)) hkb (by first | omega | (simp; omega)))); replace HR4 := Lib.hid hBS; replace HK := Lib.hid (Kp.own hkb (by first | omega | (simp; omega)) (Kp.trans HK.out hka)); have hszS := hkb.size_; have hsyS := hka.size_; (try simp only [World.size_alloc, World.size_drew, World.heap_drewN, World.size_setCell] at hszS hsyS); clear hBS hka hkb hlSo; have hlSS := HS.out.lt
        refine hK.out _ _ (⟨HF.out, HU.out, HV.out, HX.out⟩) (fun hHeld => ?_)
        clear hK K
        try simp only [Act.put, List.setIfInBounds_toArray, List.set_cons_zero, List.set_cons_succ]
        refine wpAnyH_take (i := 9) (v := (.int .i64 x)) rfl (by kernel_rfl) (by kernel_rfl) (by kernel_rfl) (fun _ _ _ h => h) (Or.inl ⟨by rfl, fun w _ => by simp [go_sem, execOp]⟩) hHeld ?_
        simp only [Act.put, List.getElem_toArray, List.getElem_cons_succ, List.getElem_cons_zero, List.setIfInBounds_toArray, List.set_cons_zero, List.set_cons_succ]
        refine wpAnyH_done (by kernel_rfl) ?_ _
        go_wp2
        all_goals exact bodyPost_ret (results_5 rfl (resF_cell HR1.out Try.underlying30 (by kernel_rfl) rfl) (resF_cell HR2.out Try.underlying25 (by kernel_rfl) rfl) (resF_cell HR3.out Try.underlying25 (by kernel_rfl) rfl) (resF_cell HR4.out Try.underlying25 (by kernel_rfl) rfl) (resF_tmp _ rfl)) rfl ⟨C, g, q, ud, ut, vd, vt, fa, fb, x, rfl, by omega, by omega, Own.ge_mono HO.out (by omega), Kp.toBel HK.out (by omega)⟩
      · go_simp
        go_at_call 112; refine (l01Next_c X A zs _ (by omega) _ (by repeat (with_reducible first | exact HS.out | refine Src.alloc _ ?_ | refine Src.drew ?_ | refine Src.drewN _ ?_ | (refine Src.far _ ?_ ?_; (have := HS.out.lt; first | omega | (simp; omega))) | (refine Src.setRow _ ?_ ?_; (have := HS.out.lt; first | omega | (simp; omega)))))).mono ?_; rintro e w7 ⟨x7, rfl, hx7, hy7, hd7⟩; (try rw [Int.max_eq_left (by omega)] at hy7); have hkb := hd7.kp; have hka := Kp.ka HK.out hkb (by repeat (with_reducible first | exact Kp.refl _ _ | refine Kp.alloc _ ?_ | refine Kp.drew ?_ | refine Kp.drewN _ ?_)); have hlS7 := HS.out.lt; (try (replace HR1 := Lib.hid (Blk.kp2 hka hkb (by first | omega | (simp; omega)) (by first | omega | (simp; omega)) HR1.out))); (try (replace HR2 := Lib.hid (Blk.kp2 hka hkb (by first | omega | (simp; omega)) (by first | omega | (simp; omega)) HR2.out))); (try (replace HR3 := Lib.hid (Blk.kp2 hka hkb (by first | omega | (simp; omega)) (by first | omega | (simp; omega)) HR3.out))); (try (replace HR4 := Lib.hid (Blk.kp2 hka hkb (by first | omega | (simp; omega)) (by first | omega | (simp; omega)) HR4.out))); (try (replace HF := Lib.hid (Blk.kp2 hka hkb (by first | omega | (simp; omega)) (by first | omega | (simp; omega)) HF.out))); (try (replace HU := Lib.hid (Blk.kp2 hka hkb (by first | omega | (simp; omega)) (by first | omega | (simp; omega)) HU.out))); (try (replace HV := Lib.hid (Blk.kp2 hka hkb (by first | omega | (simp; omega)) (by first | omega | (simp; omega)) HV.out))); (try (replace HX := Lib.hid (Blk.kp2 hka hkb (by first | omega | (simp; omega)) (by first | omega | (simp; omega)) HX.out))); (try (replace HO := Lib.hid (Own.kp3 hka hkb (by first | omega | (simp; omega)) (by first | omega | (simp; omega)) HO.out))); replace HK := Lib.hid (Kp.trans HK.out (Kp.trans hka hkb)); have hsz7 := hkb.size_; have hsy7 := hka.size_; (try simp only [World.size_alloc, World.size_drew, World.heap_drewN, World.size_setCell] at hsz7 hsy7); replace HS := Lib.hid hd7.src; clear hka hkb hd7 hlS7; have hlS7 := HS.out.lt
        refine hK.out _ _ (trivial) (fun hHeld => ?_)
        clear hK K
        try simp only [Act.put, List.setIfInBounds_toArray, List.set_cons_zero, List.set_cons_succ]
        have c0 : w7.cell? ⟨w3.heap.size, 0, none⟩ = some (.int .i64 ea) := by rw [HX.out.cell]; rfl
        refine wpAnyH_ready (rs := [1]) (by kernel_rfl) (by simp) ?_
        refine AllReadyH.cons rfl (fun K hK => ?_) AllReadyH.nil
        go_simp
        refine hK.out _ _ (trivial) (fun hHeld => ?_)
        clear hK K
        try simp only [Act.put, List.setIfInBounds_toArray, List.set_cons_zero, List.set_cons_succ]
        clear c0
        refine wpAnyH_ready (rs := [4]) (by kernel_rfl) (by simp) ?_
        refine AllReadyH.cons rfl (fun K hK => ?_) AllReadyH.nil
        go_simp
        refine hK.out _ _ (trivial) (fun hHeld => ?_)
        clear hK K
        try simp only [Act.put, List.setIfInBounds_toArray, List.set_cons_zero, List.set_cons_succ]
        refine wpAnyH_ready (rs := [5]) (by kernel_rfl) (by simp) ?_
        refine AllReadyH.cons rfl (fun K hK => ?_) AllReadyH.nil
        go_simp
        refine hK.out _ _ (trivial) (fun hHeld => ?_)
        clear hK K
        try simp only [Act.put, List.setIfInBounds_toArray, List.set_cons_zero, List.set_cons_succ]
        refine wpAnyH_ready (rs := [6]) (by kernel_rfl) (by simp) ?_
        refine AllReadyH.cons rfl (fun K hK => ?_) AllReadyH.nil
        go_simp
        refine hK.out _ _ (trivial) (fun hHeld => ?_)
        clear hK K
        try simp only [Act.put, List.setIfInBounds_toArray, List.set_cons_zero, List.set_cons_succ]
        refine wpAnyH_ready (rs := [7]) (by kernel_rfl) (by simp) ?_
        refine AllReadyH.cons rfl (fun K hK => ?_) AllReadyH.nil
        go_simp
        refine hK.out _ _ (trivial) (fun hHeld => ?_)
        clear hK K
        try simp only [Act.put, List.setIfInBounds_toArray, List.set_cons_zero, List.set_cons_succ]
        refine wpAnyH_take (i := 8) (v := (.pointer (some ⟨w3.heap.size, 0, none⟩))) rfl (by kernel_rfl) (by kernel_rfl) (by kernel_rfl) (fun _ _ _ h => h) (Or.inl ⟨by rfl, fun w _ => by simp [go_sem, execOp]⟩) hHeld ?_
        simp only [Act.put, List.getElem_toArray, List.getElem_cons_succ, List.getElem_cons_zero, List.setIfInBounds_toArray, List.set_cons_zero, List.set_cons_succ]
        refine wpAnyH_ready (rs := [9]) (by kernel_rfl) (by simp) ?_
        refine AllReadyH.cons rfl (fun K hK => ?_) AllReadyH.nil
        refine step_store_part 2 _ _ _ 0 _ _ (Blk.kp (Kp.ka0 HK.out (by repeat (with_reducible first | exact Kp.refl _ _ | refine Kp.alloc _ ?_ | refine Kp.drew ?_ | refine Kp.drewN _ ?_))) (by first | omega | (simp; omega)) HX.out) rfl rfl rfl rfl rfl (by rfl) (by kernel_rfl) (by simp [go_sem, Value.cells, Value.oneCell']) (by simp [go_sem, Value.cells]) ?_; intro wS hBS hkb; simp [go_sem, Value.cells, setL] at hBS; have hka := Kp.ka HK.out hkb (by repeat (with_reducible first | exact Kp.refl _ _ | refine Kp.alloc _ ?_ | refine Kp.drew ?_ | refine Kp.drewN _ ?_)); have hlSo := HS.out.lt; (try (replace HR1 := Lib.hid (Blk.kp2 hka hkb (by first | omega | (simp; omega)) (by first | omega | (simp; omega)) HR1.out))); (try (replace HR2 := Lib.hid (Blk.kp2 hka hkb (by first | omega | (simp; omega)) (by first | omega | (simp; omega)) HR2.out))); (try (replace HR3 := Lib.hid (Blk.kp2 hka hkb (by first | omega | (simp; omega)) (by first | omega | (simp; omega)) HR3.out))); (try (replace HR4 := Lib.hid (Blk.kp2 hka hkb (by first | omega | (simp; omega)) (by first | omega | (simp; omega)) HR4.out))); (try (replace HF := Lib.hid (Blk.kp2 hka hkb (by first | omega | (simp; omega)) (by first | omega | (simp; omega)) HF.out))); (try (replace HU := Lib.hid (Blk.kp2 hka hkb (by first | omega | (simp; omega)) (by first | omega | (simp; omega)) HU.out))); (try (replace HV := Lib.hid (Blk.kp2 hka hkb (by first | omega | (simp; omega)) (by first | omega | (simp; omega)) HV.out))); (try (replace HO := Lib.hid (Own.kp3 hka hkb (by first | omega | (simp; omega)) (by first | omega | (simp; omega)) HO.out))); (try replace HS := Lib.hid (Src.kpg2 HS.out (by repeat (with_reducible first | exact Below.refl _ _ | refine Bel.alloc ?_ _ | refine Below.drew ?_ | refine Bel.drewN ?_ _)) hkb (by first | omega | (simp; omega)))); replace HX := Lib.hid hBS; replace HK := Lib.hid (Kp.own hkb (by first | omega | (simp; omega)) (Kp.trans HK.out hka)); have hszS := hkb.size_; have hsyS := hka.size_; (try simp only [World.size_alloc, World.size_drew, World.heap_drewN, World.size_setCell] at hszS hsyS); clear hBS hka hkb hlSo; have hlSS := HS.out.lt
        refine hK.out _ _ (trivial) (fun hHeld => ?_)
        clear hK K
        try simp only [Act.put, List.setIfInBounds_toArray, List.set_cons_zero, List.set_cons_succ]
        refine wpAnyH_done (by kernel_rfl) ?_ _
        have hX2 : ∃ z : Int, Hid (Blk wS w3.heap.size 25 #[.int .i64 z, .int .i64 eb]) := ⟨_, HX⟩
        clear HX
        obtain ⟨fa, HX⟩ := hX2
        go_upto_region 8 with (fail)
        obtain ⟨V2, rfl⟩ : ∃ U : World, U = wS := ⟨_, rfl⟩
        obtain ⟨fb, rfl⟩ : ∃ z : Int, z = eb := ⟨_, rfl⟩
        have hlX2 := HX.out.lt
        refine wp_region_held_drew (S := fun W => Blk W w2.heap.size 30 #[.int .i64 C.dg, .int .i64 C.tn, .string C.nm, .slice (some ⟨g, 0, none⟩) C.zs.length q, .int .i64 C.wd, .int .i64 C.lf, .int .i64 C.rt] ∧ Blk W (w2.heap.size + 1) 25 #[.int .i64 ud, .int .i64 ut] ∧ Blk W (w2.heap.size + 1 + 1) 25 #[.int .i64 vd, .int .i64 vt] ∧ Blk W w3.heap.size 25 #[.int .i64 fa, .int .i64 fb]) (by kernel_rfl) (⟨HF.out.drew, HU.out.drew, HV.out.drew, HX.out.drew⟩) (fun hHeld => ?_)
        replace HR1 := Lib.hid HR1.out.drew
        replace HR2 := Lib.hid HR2.out.drew
        replace HR3 := Lib.hid HR3.out.drew
        replace HR4 := Lib.hid HR4.out.drew
        replace HF := Lib.hid HF.out.drew
        replace HU := Lib.hid HU.out.drew
        replace HV := Lib.hid HV.out.drew
        replace HX := Lib.hid HX.out.drew
        replace HO := Lib.hid HO.out.drew
        replace HS := Lib.hid HS.out.drew
        replace HK := Lib.hid HK.out.drew
        have hsd : V2.drew.heap.size = V2.heap.size := rfl
        rw [← hsd] at hlX2
        clear hsd
        generalize V2.drew = v2 at HR1 HR2 HR3 HR4 HF HU HV HX HO HS HK hHeld hlX2 ⊢
        refine wpAnyH_take (i := 0) (v := .agg #[.int .i64 C.dg, .int .i64 C.tn, .string C.nm, .slice (some ⟨g, 0, none⟩) C.zs.length q, .int .i64 C.wd, .int .i64 C.lf, .int .i64 C.rt]) rfl (by kernel_rfl) (by kernel_rfl) (by kernel_rfl) (fun _ _ _ h => h) (yieldsIf_load_blk 30 _ (w2.heap.size) (fun _ h => h.1) Try.underlying30 (by kernel_rfl) (by rfl) rfl rfl) hHeld ?_
        simp only [Act.put, List.getElem_toArray, List.getElem_cons_succ, List.getElem_cons_zero, List.setIfInBounds_toArray, List.set_cons_zero, List.set_cons_succ]
        refine wpAnyH_take (i := 1) (v := .agg #[.int .i64 ud, .int .i64 ut]) rfl (by kernel_rfl) (by kernel_rfl) (by kernel_rfl) (fun _ _ _ h => h) (yieldsIf_load_blk 25 _ ((w2.heap.size + 1)) (fun _ h => h.2.1) Try.underlying25 (by kernel_rfl) (by rfl) rfl rfl) hHeld ?_
        simp only [Act.put, List.getElem_toArray, List.getElem_cons_succ, List.getElem_cons_zero, List.setIfInBounds_toArray, List.set_cons_zero, List.set_cons_succ]
        refine wpAnyH_take (i := 2) (v := .agg #[.int .i64 vd, .int .i64 vt]) rfl (by kernel_rfl) (by kernel_rfl) (by kernel_rfl) (fun _ _ _ h => h) (yieldsIf_load_blk 25 _ ((w2.heap.size + 1 + 1)) (fun _ h => h.2.2.1) Try.underlying25 (by kernel_rfl) (by rfl) rfl rfl) hHeld ?_
        simp only [Act.put, List.getElem_toArray, List.getElem_cons_succ, List.getElem_cons_zero, List.setIfInBounds_toArray, List.set_cons_zero, List.set_cons_succ]
        refine wpAnyH_take (i := 3) (v := .agg #[.int .i64 fa, .int .i64 fb]) rfl (by kernel_rfl) (by kernel_rfl) (by kernel_rfl) (fun _ _ _ h => h) (yieldsIf_load_blk 25 _ (w3.heap.size) (fun _ h => h.2.2.2) Try.underlying25 (by kernel_rfl) (by rfl) rfl rfl) hHeld ?_
        simp only [Act.put, List.getElem_toArray, List.getElem_cons_succ, List.getElem_cons_zero, List.setIfInBounds_toArray, List.set_cons_zero, List.set_cons_succ]
        refine wpAnyH_take (i := 4) (v := (.int .i64 x)) rfl (by kernel_rfl) (by kernel_rfl) (by kernel_rfl) (fun _ _ _ h => h) (Or.inl ⟨by rfl, fun w _ => by simp [go_sem, execOp]⟩) hHeld ?_
        simp only [Act.put, List.getElem_toArray, List.getElem_cons_succ, List.getElem_cons_zero, List.setIfInBounds_toArray, List.set_cons_zero, List.set_cons_succ]
        refine wpAnyH_ready (rs := [5]) (by kernel_rfl) (by simp) ?_
        refine AllReadyH.cons rfl (fun K hK => ?_) AllReadyH.nil
        refine step_store_part 30 _ _ _ 0 (.agg #[.int .i64 C.dg, .int .i64 C.tn, .string C.nm, .slice (some ⟨g, 0, none⟩) C.zs.length q, .int .i64 C.wd, .int .i64 C.lf, .int .i64 C.rt]) #[.int .i64 C.dg, .int .i64 C.tn, .string C.nm, .slice (some ⟨g, 0, none⟩) C.zs.length q, .int .i64 C.wd, .int .i64 C.lf, .int .i64 C.rt] (Blk.kp (Kp.ka0 HK.out (by repeat (with_reducible first | exact Kp.refl _ _ | refine Kp.alloc _ ?_ | refine Kp.drew ?_ | refine Kp.drewN _ ?_))) (by first | omega | (simp; omega)) HR1.out) rfl rfl rfl rfl rfl (by rfl) (by kernel_rfl) (by simp [Value.oneCell']) (by simp) ?_; intro wS hBS hkb; simp only [setL, List.setIfInBounds_toArray, List.set_cons_zero, List.set_cons_succ] at hBS; have hka := Kp.ka HK.out hkb (by repeat (with_reducible first | exact Kp.refl _ _ | refine Kp.alloc _ ?_ | refine Kp.drew ?_ | refine Kp.drewN _ ?_)); have hlSo := HS.out.lt; (try (replace HF := Lib.hid (Blk.kp2 hka hkb (by first | omega | (simp; omega)) (by first | omega | (simp; omega)) HF.out))); (try (replace HU := Lib.hid (Blk.kp2 hka hkb (by first | omega | (simp; omega)) (by first | omega | (simp; omega)) HU.out))); (try (replace HV := Lib.hid (Blk.kp2 hka hkb (by first | omega | (simp; omega)) (by first | omega | (simp; omega)) HV.out))); (try (replace HX := Lib.hid (Blk.kp2 hka hkb (by first | omega | (simp; omega)) (by first | omega | (simp; omega)) HX.out))); (try (replace HR2 := Lib.hid (Blk.kp2 hka hkb (by first | omega | (simp; omega)) (by first | omega | (simp; omega)) HR2.out))); (try (replace HR3 := Lib.hid (Blk.kp2 hka hkb (by first | omega | (simp; omega)) (by first | omega | (simp; omega)) HR3.out))); (try (replace HR4 := Lib.hid (Blk.kp2 hka hkb (by first | omega | (simp; omega)) (by first | omega | (simp; omega)) HR4.out))); (try (replace HO := Lib.hid (Own.kp3 hka hkb (by first | omega | (simp; omega)) (by first | omega | (simp; omega)) HO.out))); (try replace HS := Lib.hid (Src.kpg2 HS.out (by repeat (with_reducible first | exact Below.refl _ _ | refine Bel.alloc ?_ _ | refine Below.drew ?_ | refine Bel.drewN ?_ _)) hkb (by first | omega | (simp; omega)))); replace HR1 := Lib.hid hBS; replace HK := Lib.hid (Kp.own hkb (by first | omega | (simp; omega)) (Kp.trans HK.out hka)); have hszS := hkb.size_; have hsyS := hka.size_; (try simp only [World.size_alloc, World.size_drew, World.heap_drewN, World.size_setCell] at hszS hsyS); clear hBS hka hkb hlSo; have hlSS := HS.out.lt
        refine hK.out _ _ (⟨HF.out, HU.out, HV.out, HX.out⟩) (fun hHeld => ?_)
        clear hK K
        try simp only [Act.put, List.setIfInBounds_toArray, List.set_cons_zero, List.set_cons_succ]
        refine wpAnyH_ready (rs := [6]) (by kernel_rfl) (by simp) ?_
        refine AllReadyH.cons rfl (fun K hK => ?_) AllReadyH.nil
        refine step_store_part 25 _ _ _ 0 (.agg #[.int .i64 ud, .int .i64 ut]) #[.int .i64 ud, .int .i64 ut] (Blk.kp (Kp.ka0 HK.out (by repeat (with_reducible first | exact Kp.refl _ _ | refine Kp.alloc _ ?_ | refine Kp.drew ?_ | refine Kp.drewN _ ?_))) (by first | omega | (simp; omega)) HR2.out) rfl rfl rfl rfl rfl (by rfl) (by kernel_rfl) (by simp [Value.oneCell']) (by simp) ?_; intro wS hBS hkb; simp only [setL, List.setIfInBounds_toArray, List.set_cons_zero, List.set_cons_succ] at hBS; have hka := Kp.ka HK.out hkb (by repeat (with_reducible first | exact Kp.refl _ _ | refine Kp.alloc _ ?_ | refine Kp.drew ?_ | refine Kp.drewN _ ?_)); have hlSo := HS.out.lt; (try (replace HF := Lib.hid (Blk.kp2 hka hkb (by first | omega | (simp; omega)) (by first | omega | (simp; omega)) HF.out))); (try (replace HU := Lib.hid (Blk.kp2 hka hkb (by first | omega | (simp; omega)) (by first | omega | (simp; omega)) HU.out))); (try (replace HV := Lib.hid (Blk.kp2 hka hkb (by first | omega | (simp; omega)) (by first | omega | (simp; omega)) HV.out))); (try (replace HX := Lib.hid (Blk.kp2 hka hkb (by first | omega | (simp; omega)) (by first | omega | (simp; omega)) HX.out))); (try (replace HR1 := Lib.hid (Blk.kp2 hka hkb (by first | omega | (simp; omega)) (by first | omega | (simp; omega)) HR1.out))); (try (replace HR3 := Lib.hid (Blk.kp2 hka hkb (by first | omega | (simp; omega)) (by first | omega | (simp; omega)) HR3.out))); (try (replace HR4 := Lib.hid (Blk.kp2 hka hkb (by first | omega | (simp; omega)) (by first | omega | (simp; omega)) HR4.out))); (try (replace HO := Lib.hid (Own.kp3 hka hkb (by first | omega | (simp; omega)) (by first | omega | (simp; omega)) HO.out))); (try replace HS := Lib.hid (Src.kpg2 HS.out (by repeat (with_reducible first | exact Below.refl _ _ | refine Bel.alloc ?_ _ | refine Below.drew ?_ | refine Bel.drewN ?_ _)) hkb (by first | omega | (simp; omega)))); replace HR2 := Lib.hid hBS; replace HK := Lib.hid (Kp.own hkb (by first | omega | (simp; omega)) (Kp.trans HK.out hka)); have hszS := hkb.size_; have hsyS := hka.size_; (try simp only [World.size_alloc, World.size_drew, World.heap_drewN, World.size_setCell] at hszS hsyS); clear hBS hka hkb hlSo; have hlSS := HS.out.lt
        refine hK.out _ _ (⟨HF.out, HU.out, HV.out, HX.out⟩) (fun hHeld => ?_)
        clear hK K
        try simp only [Act.put, List.setIfInBounds_toArray, List.set_cons_zero, List.set_cons_succ]
        refine wpAnyH_ready (rs := [7]) (by kernel_rfl) (by simp) ?_
        refine AllReadyH.cons rfl (fun K hK => ?_) AllReadyH.nil
        refine step_store_part 25 _ _ _ 0 (.agg #[.int .i64 vd, .int .i64 vt]) #[.int .i64 vd, .int .i64 vt] (Blk.kp (Kp.ka0 HK.out (by repeat (with_reducible first | exact Kp.refl _ _ | refine Kp.alloc _ ?_ | refine Kp.drew ?_ | refine Kp.drewN _ ?_))) (by first | omega | (simp; omega)) HR3.out) rfl rfl rfl rfl rfl (by rfl) (by kernel_rfl) (by simp [Value.oneCell']) (by simp) ?_; intro wS hBS hkb; simp only [setL, List.setIfInBounds_toArray, List.set_cons_zero, List.set_cons_succ] at hBS; have hka := Kp.ka HK.out hkb (by repeat (with_reducible first | exact Kp.refl _ _ | refine Kp.alloc _ ?_ | refine Kp.drew ?_ | refine Kp.drewN _ ?_)); have hlSo := HS.out.lt; (try (replace HF := Lib.hid (Blk.kp2 hka hkb (by first | omega | (simp; omega)) (by first | omega | (simp; omega)) HF.out))); (try (replace HU := Lib.hid (Blk.kp2 hka hkb (by first | omega | (simp; omega)) (by first | omega | (simp; omega)) HU.out))); (try (replace HV := Lib.hid (Blk.kp2 hka hkb (by first | omega | (simp; omega)) (by first | omega | (simp; omega)) HV.out))); (try (replace HX := Lib.hid (Blk.kp2 hka hkb (by first | omega | (simp; omega)) (by first | omega | (simp; omega)) HX.out))); (try (replace HR1 := Lib.hid (Blk.kp2 hka hkb (by first | omega | (simp; omega)) (by first | omega | (simp; omega)) HR1.out))); (try (replace HR2 := Lib.hid (Blk.kp2 hka hkb (by first | omega | (simp; omega)) (by first | omega | (simp; omega)) HR2.out))); (try (replace HR4 := Lib.hid (Blk.kp2 hka hkb (by first | omega | (simp; omega)) (by first | omega | (simp; omega)) HR4.out))); (try (replace HO := Lib.hid (Own.kp3 hka hkb (by first | omega | (simp; omega)) (by first | omega | (simp; omega)) HO.out))); (try replace HS := Lib.hid (Src.kpg2 HS.out (by repeat (with_reducible first | exact Below.refl _ _ | refine Bel.alloc ?_ _ | refine Below.drew ?_ | refine Bel.drewN ?_ _)) hkb (by first | omega | (simp; omega)))); replace HR3 := Lib.hid hBS; replace HK := Lib.hid (Kp.own hkb (by first | omega | (simp; omega)) (Kp.trans HK.out hka)); have hszS := hkb.size_; have hsyS := hka.size_; (try simp only [World.size_alloc, World.size_drew, World.heap_drewN, World.size_setCell] at hszS hsyS); clear hBS hka hkb hlSo; have hlSS := HS.out.lt
        refine hK.out _ _ (⟨HF.out, HU.out, HV.out, HX.out⟩) (fun hHeld => ?_)
        clear hK K
        try simp only [Act.put, List.setIfInBounds_toArray, List.set_cons_zero, List.set_cons_succ]
        refine wpAnyH_ready (rs := [8]) (by kernel_rfl) (by simp) ?_
        refine AllReadyH.cons rfl (fun K hK => ?_) AllReadyH.nil
        refine step_store_part 25 _ _ _ 0 (.agg #[.int .i64 fa, .int .i64 fb]) #[.int .i64 fa, .int .i64 fb] (Blk.kp (Kp.ka0 HK.out (by repeat (with_reducible first | exact Kp.refl _ _ | refine Kp.alloc _ ?_ | refine Kp.drew ?_ | refine Kp.drewN _ ?_))) (by first | omega | (simp; omega)) HR4.out) rfl rfl rfl rfl rfl (by rfl) (by kernel_rfl) (by simp [Value.oneCell']) (by simp) ?_; intro wS hBS hkb; simp only [setL, List.setIfInBounds_toArray, List.set_cons_zero, List.set_cons_succ] at hBS; have hka := Kp.ka HK.out hkb (by repeat (with_reducible first | exact Kp.refl _ _ | refine Kp.alloc _ ?_ | refine Kp.drew ?_ | refine Kp.drewN _ ?_)); have hlSo := HS.out.lt; (try (replace HF := Lib.hid (Blk.kp2 hka hkb (by first | omega | (simp; omega)) (by first | omega | (simp; omega)) HF.out))); (try (replace HU := Lib.hid (Blk.kp2 hka hkb (by first | omega | (simp; omega)) (by first | omega | (simp; omega)) HU.out))); (try (replace HV := Lib.hid (Blk.kp2 hka hkb (by first | omega | (simp; omega)) (by first | omega | (simp; omega)) HV.out))); (try (replace HX := Lib.hid (Blk.kp2 hka hkb (by first | omega | (simp; omega)) (by first | omega | (simp; omega)) HX.out))); (try (replace HR1 := Lib.hid (Blk.kp2 hka hkb (by first | omega | (simp; omega)) (by first | omega | (simp; omega)) HR1.out))); (try (replace HR2 := Lib.hid (Blk.kp2 hka hkb (by first | omega | (simp; omega)) (by first | omega | (simp; omega)) HR2.out))); (try (replace HR3 := Lib.hid (Blk.kp2 hka hkb (by first | omega | (simp; omega)) (by first | omega | (simp; omega)) HR3.out))); (try (replace HO := Lib.hid (Own.kp3 hka hkb (by first | omega | (simp; omega)) (by first | omega | (simp; omega)) HO.out))); (try replace HS := Lib.hid (Src.kpg2 HS.out (by repeat (with_reducible first | exact Below.refl _ _ | refine Bel.alloc ?_ _ | refine Below.drew ?_ | refine Bel.drewN ?_ _)) hkb (by first | omega | (simp; omega)))); replace HR4 := Lib.hid hBS; replace HK := Lib.hid (Kp.own hkb (by first | omega | (simp; omega)) (Kp.trans HK.out hka)); have hszS := hkb.size_; have hsyS := hka.size_; (try simp only [World.size_alloc, World.size_drew, World.heap_drewN, World.size_setCell] at hszS hsyS); clear hBS hka hkb hlSo; have hlSS := HS.out.lt
        refine hK.out _ _ (⟨HF.out, HU.out, HV.out, HX.out⟩) (fun hHeld => ?_)
        clear hK K
        try simp only [Act.put, List.setIfInBounds_toArray, List.set_cons_zero, List.set_cons_succ]
        refine wpAnyH_take (i := 9) (v := (.int .i64 x)) rfl (by kernel_rfl) (by kernel_rfl) (by kernel_rfl) (fun _ _ _ h => h) (Or.inl ⟨by rfl, fun w _ => by simp [go_sem, execOp]⟩) hHeld ?_
        simp only [Act.put, List.getElem_toArray, List.getElem_cons_succ, List.getElem_cons_zero, List.setIfInBounds_toArray, List.set_cons_zero, List.set_cons_succ]
        refine wpAnyH_done (by kernel_rfl) ?_ _
        go_wp2
        all_goals exact bodyPost_ret (results_5 rfl (resF_cell HR1.out Try.underlying30 (by kernel_rfl) rfl) (resF_cell HR2.out Try.underlying25 (by kernel_rfl) rfl) (resF_cell HR3.out Try.underlying25 (by kernel_rfl) rfl) (resF_cell HR4.out Try.underlying25 (by kernel_rfl) rfl) (resF_tmp _ rfl)) rfl ⟨C, g, q, ud, ut, vd, vt, fa, fb, x, rfl, by omega, by omega, Own.ge_mono HO.out (by omega), Kp.toBel HK.out (by omega)⟩
  · go_simp
    go_at_call 112; refine (l01Next_c X A zs _ (by omega) _ (by repeat (with_reducible first | exact HS.out | refine Src.alloc _ ?_ | refine Src.drew ?_ | refine Src.drewN _ ?_ | (refine Src.far _ ?_ ?_; (have := HS.out.lt; first | omega | (simp; omega))) | (refine Src.setRow _ ?_ ?_; (have := HS.out.lt; first | omega | (simp; omega)))))).mono ?_; rintro e w6 ⟨x6, rfl, hx6, hy6, hd6⟩; (try rw [Int.max_eq_left (by omega)] at hy6); have hkb := hd6.kp; have hka := Kp.ka HK.out hkb (by repeat (with_reducible first | exact Kp.refl _ _ | refine Kp.alloc _ ?_ | refine Kp.drew ?_ | refine Kp.drewN _ ?_)); have hlS6 := HS.out.lt; (try (replace HR1 := Lib.hid (Blk.kp2 hka hkb (by first | omega | (simp; omega)) (by first | omega | (simp; omega)) HR1.out))); (try (replace HR2 := Lib.hid (Blk.kp2 hka hkb (by first | omega | (simp; omega)) (by first | omega | (simp; omega)) HR2.out))); (try (replace HR3 := Lib.hid (Blk.kp2 hka hkb (by first | omega | (simp; omega)) (by first | omega | (simp; omega)) HR3.out))); (try (replace HR4 := Lib.hid (Blk.kp2 hka hkb (by first | omega | (simp; omega)) (by first | omega | (simp; omega)) HR4.out))); (try (replace HF := Lib.hid (Blk.kp2 hka hkb (by first | omega | (simp; omega)) (by first | omega | (simp; omega)) HF.out))); (try (replace HU := Lib.hid (Blk.kp2 hka hkb (by first | omega | (simp; omega)) (by first | omega | (simp; omega)) HU.out))); (try (replace HV := Lib.hid (Blk.kp2 hka hkb (by first | omega | (simp; omega)) (by first | omega | (simp; omega)) HV.out))); (try (replace HX := Lib.hid (Blk.kp2 hka hkb (by first | omega | (simp; omega)) (by first | omega | (simp; omega)) HX.out))); (try (replace HL := Lib.hid (Blk.kp2 hka hkb (by first | omega | (simp; omega)) (by first | omega | (simp; omega)) HL.out))); (try (replace HM := Lib.hid (Blk.kp2 hka hkb (by first | omega | (simp; omega)) (by first | omega | (simp; omega)) HM.out))); (try (replace HO := Lib.hid (Own.kp3 hka hkb (by first | omega | (simp; omega)) (by first | omega | (simp; omega)) HO.out))); replace HK := Lib.hid (Kp.trans HK.out (Kp.trans hka hkb)); have hsz6 := hkb.size_; have hsy6 := hka.size_; (try simp only [World.size_alloc, World.size_drew, World.heap_drewN, World.size_setCell] at hsz6 hsy6); replace HS := Lib.hid hd6.src; clear hka hkb hd6 hlS6; have hlS6 := HS.out.lt
    refine hK.out _ _ (⟨HL.out, HM.out⟩) (fun hHeld => ?_)
    clear hK K
    try simp only [Act.put, List.setIfInBounds_toArray, List.set_cons_zero, List.set_cons_succ]
    refine wpAnyH_ready (rs := [2]) (by kernel_rfl) (by simp) ?_
    refine AllReadyH.cons rfl (fun K hK => ?_) (AllReadyH.nil)
    go_simp
    have HN := Lib.hid (Blk.new w6 25 #[.int .i64 e0, .int .i64 e1, .int .i64 e2, .int .i64 e3])
    replace HR1 := Lib.hid (Blk.alloc (.cells #[.int .i64 e0, .int .i64 e1, .int .i64 e2, .int .i64 e3] 25) HR1.out)
    replace HR2 := Lib.hid (Blk.alloc (.cells #[.int .i64 e0, .int .i64 e1, .int .i64 e2, .int .i64 e3] 25) HR2.out)
    replace HR3 := Lib.hid (Blk.alloc (.cells #[.int .i64 e0, .int .i64 e1, .int .i64 e2, .int .i64 e3] 25) HR3.out)
    replace HR4 := Lib.hid (Blk.alloc (.cells #[.int .i64 e0, .int .i64 e1, .int .i64 e2, .int .i64 e3] 25) HR4.out)
    replace HF := Lib.hid (Blk.alloc (.cells #[.int .i64 e0, .int .i64 e1, .int .i64 e2, .int .i64 e3] 25) HF.out)
    replace HU := Lib.hid (Blk.alloc (.cells #[.int .i64 e0, .int .i64 e1, .int .i64 e2, .int .i64 e3] 25) HU.out)
    replace HV := Lib.hid (Blk.alloc (.cells #[.int .i64 e0, .int .i64 e1, .int .i64 e2, .int .i64 e3] 25) HV.out)
    replace HX := Lib.hid (Blk.alloc (.cells #[.int .i64 e0, .int .i64 e1, .int .i64 e2, .int .i64 e3] 25) HX.out)
    replace HL := Lib.hid (Blk.alloc (.cells #[.int .i64 e0, .int .i64 e1, .int .i64 e2, .int .i64 e3] 25) HL.out)
    replace HM := Lib.hid (Blk.alloc (.cells #[.int .i64 e0, .int .i64 e1, .int .i64 e2, .int .i64 e3] 25) HM.out)
    replace HO := Lib.hid (Own.alloc (.cells #[.int .i64 e0, .int .i64 e1, .int .i64 e2, .int .i64 e3] 25) HO.out)
    replace HS := Lib.hid (Src.alloc (.cells #[.int .i64 e0, .int .i64 e1, .int .i64 e2, .int .i64 e3] 25) HS.out)
    replace HK := Lib.hid (Kp.alloc (.cells #[.int .i64 e0, .int .i64 e1, .int .i64 e2, .int .i64 e3] 25) HK.out)
    refine hK.out _ _ (⟨HL.out, HM.out⟩) (fun hHeld => ?_)
    clear hK K
    try simp only [Act.put, List.setIfInBounds_toArray, List.set_cons_zero, List.set_cons_succ]
    have hlN := HN.out.lt
    by_cases h6 : x6 = 0
    · subst h6
      have n0 : (w6.alloc (.cells #[.int .i64 e0, .int .i64 e1, .int .i64 e2, .int .i64 e3] 25)).cell? ⟨w6.heap.size, 0, none⟩ = some (.int .i64 e0) := by rw [HN.out.cell]; rfl
      have n1 : (w6.alloc (.cells #[.int .i64 e0, .int .i64 e1, .int .i64 e2, .int .i64 e3] 25)).cell? ⟨w6.heap.size, 1, none⟩ = some (.int .i64 e1) := by rw [HN.out.cell]; rfl
      have n2 : (w6.alloc (.cells #[.int .i64 e0, .int .i64 e1, .int .i64 e2, .int .i64 e3] 25)).cell? ⟨w6.heap.size, 2, none⟩ = some (.int .i64 e2) := by rw [HN.out.cell]; rfl
      have n3 : (w6.alloc (.cells #[.int .i64 e0, .int .i64 e1, .int .i64 e2, .int .i64 e3] 25)).cell? ⟨w6.heap.size, 3, none⟩ = some (.int .i64 e3) := by rw [HN.out.cell]; rfl
      refine wpAnyH_ready (rs := [5]) (by kernel_rfl) (by simp) ?_
      refine AllReadyH.cons rfl (fun K hK => ?_) AllReadyH.nil
      go_simp
      refine hK.out _ _ (⟨HL.out, HM.out⟩) (fun hHeld => ?_)
      clear hK K
      try simp only [Act.put, List.setIfInBounds_toArray, List.set_cons_zero, List.set_cons_succ]
      refine wpAnyH_ready (rs := [6]) (by kernel_rfl) (by simp) ?_
      refine AllReadyH.cons rfl (fun K hK => ?_) AllReadyH.nil
      go_simp
      refine hK.out _ _ (⟨HL.out, HM.out⟩) (fun hHeld => ?_)
      clear hK K
      try simp only [Act.put, List.setIfInBounds_toArray, List.set_cons_zero, List.set_cons_succ]
      clear n0 n1 n2 n3
      refine wpAnyH_ready (rs := [7]) (by kernel_rfl) (by simp) ?_
      refine AllReadyH.cons rfl (fun K hK => ?_) AllReadyH.nil
      refine step_store_part 25 _ _ _ 0 (.agg #[.int .i64 e0, .int .i64 e1]) #[.int .i64 e0, .int .i64 e1] (Blk.kp (Kp.ka0 HK.out (by repeat (with_reducible first | exact Kp.refl _ _ | refine Kp.alloc _ ?_ | refine Kp.drew ?_ | refine Kp.drewN _ ?_))) (by first | omega | (simp; omega)) HX.out) rfl rfl rfl rfl rfl (by rfl) (by kernel_rfl) (by simp [Value.oneCell']) (by simp) ?_; intro wS hBS hkb; simp only [setL, List.setIfInBounds_toArray, List.set_cons_zero, List.set_cons_succ] at hBS; have hka := Kp.ka HK.out hkb (by repeat (with_reducible first | exact Kp.refl _ _ | refine Kp.alloc _ ?_ | refine Kp.drew ?_ | refine Kp.drewN _ ?_)); have hlSo := HS.out.lt; (try (replace HR1 := Lib.hid (Blk.kp2 hka hkb (by first | omega | (simp; omega)) (by first | omega | (simp; omega)) HR1.out))); (try (replace HR2 := Lib.hid (Blk.kp2 hka hkb (by first | omega | (simp; omega)) (by first | omega | (simp; omega)) HR2.out))); (try (replace HR3 := Lib.hid (Blk.kp2 hka hkb (by first | omega | (simp; omega)) (by first | omega | (simp; omega)) HR3.out))); (try (replace HR4 := Lib.hid (Blk.kp2 hka hkb (by first | omega | (simp; omega)) (by first | omega | (simp; omega)) HR4.out))); (try (replace HF := Lib.hid (Blk.kp2 hka hkb (by first | omega | (simp; omega)) (by first | omega | (simp; omega)) HF.out))); (try (replace HU := Lib.hid (Blk.kp2 hka hkb (by first | omega | (simp; omega)) (by first | omega | (simp; omega)) HU.out))); (try (replace HV := Lib.hid (Blk.kp2 hka hkb (by first | omega | (simp; omega)) (by first | omega | (simp; omega)) HV.out))); (try (replace HL := Lib.hid (Blk.kp2 hka hkb (by first | omega | (simp; omega)) (by first | omega | (simp; omega)) HL.out))); (try (replace HM := Lib.hid (Blk.kp2 hka hkb (by first | omega | (simp; omega)) (by first | omega | (simp; omega)) HM.out))); (try (replace HO := Lib.hid (Own.kp3 hka hkb (by first | omega | (simp; omega)) (by first | omega | (simp; omega)) HO.out))); (try replace HS := Lib.hid (Src.kpg2 HS.out (by repeat (with_reducible first | exact Below.refl _ _ | refine Bel.alloc ?_ _ | refine Below.drew ?_ | refine Bel.drewN ?_ _)) hkb (by first | omega | (simp; omega)))); replace HX := Lib.hid hBS; replace HK := Lib.hid (Kp.own hkb (by first | omega | (simp; omega)) (Kp.trans HK.out hka)); have hszS := hkb.size_; have hsyS := hka.size_; (try simp only [World.size_alloc, World.size_drew, World.heap_drewN, World.size_setCell] at hszS hsyS); clear hBS hka hkb hlSo; have hlSS := HS.out.lt
      refine hK.out _ _ (⟨HL.out, HM.out⟩) (fun hHeld => ?_)
      clear hK K
      try simp only [Act.put, List.setIfInBounds_toArray, List.set_cons_zero, List.set_cons_succ]
      refine wpAnyH_done (by kernel_rfl) ?_ _
      obtain ⟨V1, rfl⟩ : ∃ U : World, U = wS := ⟨_, rfl⟩
      obtain ⟨ea, rfl⟩ : ∃ z : Int, z = e0 := ⟨_, rfl⟩
      obtain ⟨eb, rfl⟩ : ∃ z : Int, z = e1 := ⟨_, rfl⟩
      go_upto_region 7 with (fail)
      have hlX1 := HX.out.lt
      refine wp_region_held_drew (S := fun W => True) (by kernel_rfl) (trivial) (fun hHeld => ?_)
      replace HR1 := Lib.hid HR1.out.drew
      replace HR2 := Lib.hid HR2.out.drew
      replace HR3 := Lib.hid HR3.out.drew
      replace HR4 := Lib.hid HR4.out.drew
      replace HF := Lib.hid HF.out.drew
      replace HU := Lib.hid HU.out.drew
      replace HV := Lib.hid HV.out.drew
      replace HX := Lib.hid HX.out.drew
      replace HO := Lib.hid HO.out.drew
      replace HS := Lib.hid HS.out.drew
      replace HK := Lib.hid HK.out.drew
      have hsd : V1.drew.heap.size = V1.heap.size := rfl
      rw [← hsd] at hlX1
      clear hsd
      generalize V1.drew = v1 at HR1 HR2 HR3 HR4 HF HU HV HX HO HS HK hHeld hlX1 ⊢
      refine wpAnyH_take (i := 0) (v := (.pointer (some ⟨w3.heap.size, 0, none⟩))) rfl (by kernel_rfl) (by kernel_rfl) (by kernel_rfl) (fun _ _ _ h => h) (Or.inl ⟨by rfl, fun w _ => by simp [go_sem, execOp]⟩) hHeld ?_
      simp only [Act.put, List.getElem_toArray, List.getElem_cons_succ, List.getElem_cons_zero, List.setIfInBounds_toArray, List.set_cons_zero, List.set_cons_succ]
      refine wpAnyH_take (i := 2) (v := (.pointer (some ⟨X, 0, none⟩))) rfl (by kernel_rfl) (by kernel_rfl) (by kernel_rfl) (fun _ _ _ h => h) (Or.inl ⟨by rfl, fun w _ => by simp [go_sem, execOp]⟩) hHeld ?_
      simp only [Act.put, List.getElem_toArray, List.getElem_cons_succ, List.getElem_cons_zero, List.setIfInBounds_toArray, List.set_cons_zero, List.set_cons_succ]
      refine wpAnyH_ready (rs := [1, 3]) (by kernel_rfl) (by simp) ?_
      refine AllReadyH.cons rfl (fun K hK => ?_) (AllReadyH.cons rfl (fun K hK => ?_) (AllReadyH.nil))
      · have c0 : v1.cell? ⟨w3.heap.size, 0, none⟩ = some (.int .i64 ea) := by rw [HX.out.cell]; rfl
        go_simp
        refine hK.out _ _ (trivial) (fun hHeld => ?_)
        clear hK K
        try simp only [Act.put, List.setIfInBounds_toArray, List.set_cons_zero, List.set_cons_succ]
        clear c0
        refine wpAnyH_ready (rs := [3]) (by kernel_rfl) (by simp) ?_
        refine AllReadyH.cons rfl (fun K hK => ?_) AllReadyH.nil
        go_simp
        go_at_call 112; refine (l01Next_c X A zs _ (by omega) _ (by repeat (with_reducible first | exact HS.out | refine Src.alloc _ ?_ | refine Src.drew ?_ | refine Src.drewN _ ?_ | (refine Src.far _ ?_ ?_; (have := HS.out.lt; first | omega | (simp; omega))) | (refine Src.setRow _ ?_ ?_; (have := HS.out.lt; first | omega | (simp; omega)))))).mono ?_; rintro e w7 ⟨x7, rfl, hx7, hy7, hd7⟩; (try rw [Int.max_eq_left (by omega)] at hy7); have hkb := hd7.kp; have hka := Kp.ka HK.out hkb (by repeat (with_reducible first | exact Kp.refl _ _ | refine Kp.alloc _ ?_ | refine Kp.drew ?_ | refine Kp.drewN _ ?_)); have hlS7 := HS.out.lt; (try (replace HR1 := Lib.hid (Blk.kp2 hka hkb (by first | omega | (simp; omega)) (by first | omega | (simp; omega)) HR1.out))); (try (replace HR2 := Lib.hid (Blk.kp2 hka hkb (by first | omega | (simp; omega)) (by first | omega | (simp; omega)) HR2.out))); (try (replace HR3 := Lib.hid (Blk.kp2 hka hkb (by first | omega | (simp; omega)) (by first | omega | (simp; omega)) HR3.out))); (try (replace HR4 := Lib.hid (Blk.kp2 hka hkb (by first | omega | (simp; omega)) (by first | omega | (simp; omega)) HR4.out))); (try (replace HF := Lib.hid (Blk.kp2 hka hkb (by first | omega | (simp; omega)) (by first | omega | (simp; omega)) HF.out))); (try (replace HU := Lib.hid (Blk.kp2 hka hkb (by first | omega | (simp; omega)) (by first | omega | (simp; omega)) HU.out))); (try (replace HV := Lib.hid (Blk.kp2 hka hkb (by first | omega | (simp; omega)) (by first | omega | (simp; omega)) HV.out))); (try (replace HX := Lib.hid (Blk.kp2 hka hkb (by first | omega | (simp; omega)) (by first | omega | (simp; omega)) HX.out))); (try (replace HO := Lib.hid (Own.kp3 hka hkb (by first | omega | (simp; omega)) (by first | omega | (simp; omega)) HO.out))); replace HK := Lib.hid (Kp.trans HK.out (Kp.trans hka hkb)); have hsz7 := hkb.size_; have hsy7 := hka.size_; (try simp only [World.size_alloc, World.size_drew, World.heap_drewN, World.size_setCell] at hsz7 hsy7); replace HS := Lib.hid hd7.src; clear hka hkb hd7 hlS7; have hlS7 := HS.out.lt
        go_wp2_with fail
        refine hK.out _ _ (trivial) (fun hHeld => ?_)
        clear hK K
        try simp only [Act.put, List.setIfInBounds_toArray, List.set_cons_zero, List.set_cons_succ]
        refine wpAnyH_ready (rs := [4]) (by kernel_rfl) (by simp) ?_
        refine AllReadyH.cons rfl (fun K hK => ?_) AllReadyH.nil
        go_simp
        refine hK.out _ _ (trivial) (fun hHeld => ?_)
        clear hK K
        try simp only [Act.put, List.setIfInBounds_toArray, List.set_cons_zero, List.set_cons_succ]
        refine wpAnyH_ready (rs := [5]) (by kernel_rfl) (by simp) ?_
        refine AllReadyH.cons rfl (fun K hK => ?_) AllReadyH.nil
        go_simp
        refine hK.out _ _ (trivial) (fun hHeld => ?_)
        clear hK K
        try simp only [Act.put, List.setIfInBounds_toArray, List.set_cons_zero, List.set_cons_succ]
        refine wpAnyH_ready (rs := [6]) (by kernel_rfl) (by simp) ?_
        refine AllReadyH.cons rfl (fun K hK => ?_) AllReadyH.nil
        go_simp
        refine hK.out _ _ (trivial) (fun hHeld => ?_)
        clear hK K
        try simp only [Act.put, List.setIfInBounds_toArray, List.set_cons_zero, List.set_cons_succ]
        refine wpAnyH_ready (rs := [7]) (by kernel_rfl) (by simp) ?_
        refine AllReadyH.cons rfl (fun K hK => ?_) AllReadyH.nil
        go_simp
        refine hK.out _ _ (trivial) (fun hHeld => ?_)
        clear hK K
        try simp only [Act.put, List.setIfInBounds_toArray, List.set_cons_zero, List.set_cons_succ]
        refine wpAnyH_take (i := 8) (v := (.pointer (some ⟨w3.heap.size, 0, none⟩))) rfl (by kernel_rfl) (by kernel_rfl) (by kernel_rfl) (fun _ _ _ h => h) (Or.inl ⟨by rfl, fun w _ => by simp [go_sem, execOp]⟩) hHeld ?_
        simp only [Act.put, List.getElem_toArray, List.getElem_cons_succ, List.getElem_cons_zero, List.setIfInBounds_toArray, List.set_cons_zero, List.set_cons_succ]
        refine wpAnyH_ready (rs := [9]) (by kernel_rfl) (by simp) ?_
        refine AllReadyH.cons rfl (fun K hK => ?_) AllReadyH.nil
        refine step_store_part 2 _ _ _ 0 _ _ (Blk.kp (Kp.ka0 HK.out (by repeat (with_reducible first | exact Kp.refl _ _ | refine Kp.alloc _ ?_ | refine Kp.drew ?_ | refine Kp.drewN _ ?_))) (by first | omega | (simp; omega)) HX.out) rfl rfl rfl rfl rfl (by rfl) (by kernel_rfl) (by simp [go_sem, Value.cells, Value.oneCell']) (by simp [go_sem, Value.cells]) ?_; intro wS hBS hkb; simp [go_sem, Value.cells, setL] at hBS; have hka := Kp.ka HK.out hkb (by repeat (with_reducible first | exact Kp.refl _ _ | refine Kp.alloc _ ?_ | refine Kp.drew ?_ | refine Kp.drewN _ ?_)); have hlSo := HS.out.lt; (try (replace HR1 := Lib.hid (Blk.kp2 hka hkb (by first | omega | (simp; omega)) (by first | omega | (simp; omega)) HR1.out))); (try (replace HR2 := Lib.hid (Blk.kp2 hka hkb (by first | omega | (simp; omega)) (by first | omega | (simp; omega)) HR2.out))); (try (replace HR3 := Lib.hid (Blk.kp2 hka hkb (by first | omega | (simp; omega)) (by first | omega | (simp; omega)) HR3.out))); (try (replace HR4 := Lib.hid (Blk.kp2 hka hkb (by first | omega | (simp; omega)) (by first | omega | (simp; omega)) HR4.out))); (try (replace HF := Lib.hid (Blk.kp2 hka hkb (by first | omega | (simp; omega)) (by first | omega | (simp; omega)) HF.out))); (try (replace HU := Lib.hid (Blk.kp2 hka hkb (by first | omega | (simp; omega)) (by first | omega | (simp; omega)) HU.out))); (try (replace HV := Lib.hid (Blk.kp2 hka hkb (by first | omega | (simp; omega)) (by first | omega | (simp; omega)) HV.out))); (try (replace HO := Lib.hid (Own.kp3 hka hkb (by first | omega | (simp; omega)) (by first | omega | (simp; omega)) HO.out))); (try replace HS := Lib.hid (Src.kpg2 HS.out (by repeat (with_reducible first | exact Below.refl _ _ | refine Bel.alloc ?_ _ | refine Below.drew ?_ | refine Bel.drewN ?_ _)) hkb (by first | omega | (simp; omega)))); replace HX := Lib.hid hBS; replace HK := Lib.hid (Kp.own hkb (by first | omega | (simp; omega)) (Kp.trans HK.out hka)); have hszS := hkb.size_; have hsyS := hka.size_; (try simp only [World.size_alloc, World.size_drew, World.heap_drewN, World.size_setCell] at hszS hsyS); clear hBS hka hkb hlSo; have hlSS := HS.out.lt
        refine hK.out _ _ (trivial) (fun hHeld => ?_)
        clear hK K
        try simp only [Act.put, List.setIfInBounds_toArray, List.set_cons_zero, List.set_cons_succ]
        refine wpAnyH_done (by kernel_rfl) ?_ _
        have hX2 : ∃ z : Int, Hid (Blk wS w3.heap.size 25 #[.int .i64 z, .int .i64 eb]) := ⟨_, HX⟩
        clear HX
        obtain ⟨fa, HX⟩ := hX2
        go_upto_region 8 with (fail)
        obtain ⟨V2, rfl⟩ : ∃ U : World, U = wS := ⟨_, rfl⟩
        obtain ⟨fb, rfl⟩ : ∃ z : Int, z = eb := ⟨_, rfl⟩
        have hlX2 := HX.out.lt
        refine wp_region_held_drew (S := fun W => Blk W w2.heap.size 30 #[.int .i64 C.dg, .int .i64 C.tn, .string C.nm, .slice (some ⟨g, 0, none⟩) C.zs.length q, .int .i64 C.wd, .int .i64 C.lf, .int .i64 C.rt] ∧ Blk W (w2.heap.size + 1) 25 #[.int .i64 ud, .int .i64 ut] ∧ Blk W (w2.heap.size + 1 + 1) 25 #[.int .i64 vd, .int .i64 vt] ∧ Blk W w3.heap.size 25 #[.int .i64 fa, .int .i64 fb]) (by kernel_rfl) (⟨HF.out.drew, HU.out.drew, HV.out.drew, HX.out.drew⟩) (fun hHeld => ?_)
        replace HR1 := Lib.hid HR1.out.drew
        replace HR2 := Lib.hid HR2.out.drew
        replace HR3 := Lib.hid HR3.out.drew
        replace HR4 := Lib.hid HR4.out.drew
        replace HF := Lib.hid HF.out.drew
        replace HU := Lib.hid HU.out.drew
        replace HV := Lib.hid HV.out.drew
        replace HX := Lib.hid HX.out.drew
        replace HO := Lib.hid HO.out.drew
        replace HS := Lib.hid HS.out.drew
        replace HK := Lib.hid HK.out.drew
        have hsd : V2.drew.heap.size = V2.heap.size := rfl
        rw [← hsd] at hlX2
        clear hsd
        generalize V2.drew = v2 at HR1 HR2 HR3 HR4 HF HU HV HX HO HS HK hHeld hlX2 ⊢
        refine wpAnyH_take (i := 0) (v := .agg #[.int .i64 C.dg, .int .i64 C.tn, .string C.nm, .slice (some ⟨g, 0, none⟩) C.zs.length q, .int .i64 C.wd, .int .i64 C.lf, .int .i64 C.rt]) rfl (by kernel_rfl) (by kernel_rfl) (by kernel_rfl) (fun _ _ _ h => h) (yieldsIf_load_blk 30 _ (w2.heap.size) (fun _ h => h.1) Try.underlying30 (by kernel_rfl) (by rfl) rfl rfl) hHeld ?_
        simp only [Act.put, List.getElem_toArray, List.getElem_cons_succ, List.getElem_cons_zero, List.setIfInBounds_toArray, List.set_cons_zero, List.set_cons_succ]
        refine wpAnyH_take (i := 1) (v := .agg #[.int .i64 ud, .int .i64 ut]) rfl (by kernel_rfl) (by kernel_rfl) (by kernel_rfl) (fun _ _ _ h => h) (yieldsIf_load_blk 25 _ ((w2.heap.size + 1)) (fun _ h => h.2.1) Try.underlying25 (by kernel_rfl) (by rfl) rfl rfl) hHeld ?_
        simp only [Act.put, List.getElem_toArray, List.getElem_cons_succ, List.getElem_cons_zero, List.setIfInBounds_toArray, List.set_cons_zero, List.set_cons_succ]
        refine wpAnyH_take (i := 2) (v := .agg #[.int .i64 vd, .int .i64 vt]) rfl (by kernel_rfl) (by kernel_rfl) (by kernel_rfl) (fun _ _ _ h => h) (yieldsIf_load_blk 25 _ ((w2.heap.size + 1 + 1)) (fun _ h => h.2.2.1) Try.underlying25 (by kernel_rfl) (by rfl) rfl rfl) hHeld ?_
        simp only [Act.put, List.getElem_toArray, List.getElem_cons_succ, List.getElem_cons_zero, List.setIfInBounds_toArray, List.set_cons_zero, List.set_cons_succ]
        refine wpAnyH_take (i := 3) (v := .agg #[.int .i64 fa, .int .i64 fb]) rfl (by kernel_rfl) (by kernel_rfl) (by kernel_rfl) (fun _ _ _ h => h) (yieldsIf_load_blk 25 _ (w3.heap.size) (fun _ h => h.2.2.2) Try.underlying25 (by kernel_rfl) (by rfl) rfl rfl) hHeld ?_
        simp only [Act.put, List.getElem_toArray, List.getElem_cons_succ, List.getElem_cons_zero, List.setIfInBounds_toArray, List.set_cons_zero, List.set_cons_succ]
        refine wpAnyH_take (i := 4) (v := (.int .i64 x)) rfl (by kernel_rfl) (by kernel_rfl) (by kernel_rfl) (fun _ _ _ h => h) (Or.inl ⟨by rfl, fun w _ => by simp [go_sem, execOp]⟩) hHeld ?_
        simp only [Act.put, List.getElem_toArray, List.getElem_cons_succ, List.getElem_cons_zero, List.setIfInBounds_toArray, List.set_cons_zero, List.set_cons_succ]
        refine wpAnyH_ready (rs := [5]) (by kernel_rfl) (by simp) ?_
        refine AllReadyH.cons rfl (fun K hK => ?_) AllReadyH.nil
        refine step_store_part 30 _ _ _ 0 (.agg #[.int .i64 C.dg, .int .i64 C.tn, .string C.nm, .slice (some ⟨g, 0, none⟩) C.zs.length q, .int .i64 C.wd, .int .i64 C.lf, .int .i64 C.rt]) #[.int .i64 C.dg, .int .i64 C.tn, .string C.nm, .slice (some ⟨g, 0, none⟩) C.zs.length q, .int .i64 C.wd, .int .i64 C.lf, .int .i64 C.rt] (Blk.kp (Kp.ka0 HK.out (by repeat (with_reducible first | exact Kp.refl _ _ | refine Kp.alloc _ ?_ | refine Kp.drew ?_ | refine Kp.drewN _ ?_))) (by first | omega | (simp; omega)) HR1.out) rfl rfl rfl rfl rfl (by rfl) (by kernel_rfl) (by simp [Value.oneCell']) (by simp) ?_; intro wS hBS hkb; simp only [setL, List.setIfInBounds_toArray, List.set_cons_zero, List.set_cons_succ] at hBS; have hka := Kp.ka HK.out hkb (by repeat (with_reducible first | exact Kp.refl _ _ | refine Kp.alloc _ ?_ | refine Kp.drew ?_ | refine Kp.drewN _ ?_)); have hlSo := HS.out.lt; (try (replace HF := Lib.hid (Blk.kp2 hka hkb (by first | omega | (simp; omega)) (by first | omega | (simp; omega)) HF.out))); (try (replace HU := Lib.hid (Blk.kp2 hka hkb (by first | omega | (simp; omega)) (by first | omega | (simp; omega)) HU.out))); (try (replace HV := Lib.hid (Blk.kp2 hka hkb (by first | omega | (simp; omega)) (by first | omega | (simp; omega)) HV.out))); (try (replace HX := Lib.hid (Blk.kp2 hka hkb (by first | omega | (simp; omega)) (by first | omega | (simp; omega)) HX.out))); (try (replace HR2 := Lib.hid (Blk.kp2 hka hkb (by first | omega | (simp; omega)) (by first | omega | (simp; omega)) HR2.out))); (try (replace HR3 := Lib.hid (Blk.kp2 hka hkb (by first | omega | (simp; omega)) (by first | omega | (simp; omega)) HR3.out))); (try (replace HR4 := Lib.hid (Blk.kp2 hka hkb (by first | omega | (simp; omega)) (by first | omega | (simp; omega)) HR4.out))); (try (replace HO := Lib.hid (Own.kp3 hka hkb (by first | omega | (simp; omega)) (by first | omega | (simp; omega)) HO.out))); (try replace HS := Lib.hid (Src.kpg2 HS.out (by repeat (with_reducible first | exact Below.refl _ _ | refine Bel.alloc ?_ _ | refine Below.drew ?_ | refine Bel.drewN ?_ _)) hkb (by first | omega | (simp; omega)))); replace HR1 := Lib.hid hBS; replace HK := Lib.hid (Kp.own hkb (by first | omega | (simp; omega)) (Kp.trans HK.out hka)); have hszS := hkb.size_; have hsyS := hka.size_; (try simp only [World.size_alloc, World.size_drew, World.heap_drewN, World.size_setCell] at hszS hsyS); clear hBS hka hkb hlSo; have hlSS := HS.out.lt
        refine hK.out _ _ (⟨HF.out, HU.out, HV.out, HX.out⟩) (fun hHeld => ?_)
        clear hK K
        try simp only [Act.put, List.setIfInBounds_toArray, List.set_cons_zero, List.set_cons_succ]
        refine wpAnyH_ready (rs := [6]) (by kernel_rfl) (by simp) ?_
        refine AllReadyH.cons rfl (fun K hK => ?_) AllReadyH.nil
        refine step_store_part 25 _ _ _ 0 (.agg #[.int .i64 ud, .int .i64 ut]) #[.int .i64 ud, .int .i64 ut] (Blk.kp (Kp.ka0 HK.out (by repeat (with_reducible first | exact Kp.refl _ _ | refine Kp.alloc _ ?_ | refine Kp.drew ?_ | refine Kp.drewN _ ?_))) (by first | omega | (simp; omega)) HR2.out) rfl rfl rfl rfl rfl (by rfl) (by kernel_rfl) (by simp [Value.oneCell']) (by simp) ?_; intro wS hBS hkb; simp only [setL, List.setIfInBounds_toArray, List.set_cons_zero, List.set_cons_succ] at hBS; have hka := Kp.ka HK.out hkb (by repeat (with_reducible first | exact Kp.refl _ _ | refine Kp.alloc _ ?_ | refine Kp.drew ?_ | refine Kp.drewN _ ?_)); have hlSo := HS.out.lt; (try (replace HF := Lib.hid (Blk.kp2 hka hkb (by first | omega | (simp; omega)) (by first | omega | (simp; omega)) HF.out))); (try (replace HU := Lib.hid (Blk.kp2 hka hkb (by first | omega | (simp; omega)) (by first | omega | (simp; omega)) HU.out))); (try (replace HV := Lib.hid (Blk.kp2 hka hkb (by first | omega | (simp; omega)) (by first | omega | (simp; omega)) HV.out))); (try (replace HX := Lib.hid (Blk.kp2 hka hkb (by first | omega | (simp; omega)) (by first | omega | (simp; omega)) HX.out))); (try (replace HR1 := Lib.hid (Blk.kp2 hka hkb (by first | omega | (simp; omega)) (by first | omega | (simp; omega)) HR1.out))); (try (replace HR3 := Lib.hid (Blk.kp2 hka hkb (by first | omega | (simp; omega)) (by first | omega | (simp; omega)) HR3.out))); (try (replace HR4 := Lib.hid (Blk.kp2 hka hkb (by first | omega | (simp; omega)) (by first | omega | (simp; omega)) HR4.out))); (try (replace HO := Lib.hid (Own.kp3 hka hkb (by first | omega | (simp; omega)) (by first | omega | (simp; omega)) HO.out))); (try replace HS := Lib.hid (Src.kpg2 HS.out (by repeat (with_reducible first | exact Below.refl _ _ | refine Bel.alloc ?_ _ | refine Below.drew ?_ | refine Bel.drewN ?_ _)) hkb (by first | omega | (simp; omega)))); replace HR2 := Lib.hid hBS; replace HK := Lib.hid (Kp.own hkb (by first | omega | (simp; omega)) (Kp.trans HK.out hka)); have hszS := hkb.size_; have hsyS := hka.size_; (try simp only [World.size_alloc, World.size_drew, World.heap_drewN, World.size_setCell] at hszS hsyS); clear hBS hka hkb hlSo; have hlSS := HS.out.lt
        refine hK.out _ _ (⟨HF.out, HU.out, HV.out, HX.out⟩) (fun hHeld => ?_)
        clear hK K
        try simp only [Act.put, List.setIfInBounds_toArray, List.set_cons_zero, List.set_cons_succ]
        refine wpAnyH_ready (rs := [7]) (by kernel_rfl) (by simp) ?_
        refine AllReadyH.cons rfl (fun K hK => ?_) AllReadyH.nil
        refine step_store_part 25 _ _ _ 0 (.agg #[.int .i64 vd, .int .i64 vt]) #[.int .i64 vd, .int .i64 vt] (Blk.kp (Kp.ka0 HK.out (by repeat (with_reducible first | exact Kp.refl _ _ | refine Kp.alloc _ ?_ | refine Kp.drew ?_ | refine Kp.drewN _ ?_))) (by first | omega | (simp; omega)) HR3.out) rfl rfl rfl rfl rfl (by rfl) (by kernel_rfl) (by simp [Value.oneCell']) (by simp) ?_; intro wS hBS hkb; simp only [setL, List.setIfInBounds_toArray, List.set_cons_zero, List.set_cons_succ] at hBS; have hka := Kp.ka HK.out hkb (by repeat (with_reducible first | exact Kp.refl _ _ | refine Kp.alloc _ ?_ | refine Kp.drew ?_ | refine Kp.drewN _ ?_)); have hlSo := HS.out.lt; (try (replace HF := Lib.hid (Blk.kp2 hka hkb (by first | omega | (simp; omega)) (by first | omega | (simp; omega)) HF.out))); (try (replace HU := Lib.hid (Blk.kp2 hka hkb (by first | omega | (simp; omega)) (by first | omega | (simp; omega)) HU.out))); (try (replace HV := Lib.hid (Blk.kp2 hka hkb (by first | omega | (simp; omega)) (by first | omega | (simp; omega)) HV.out))); (try (replace HX := Lib.hid (Blk.kp2 hka hkb (by first | omega | (simp; omega)) (by first | omega | (simp; omega)) HX.out))); (try (replace HR1 := Lib.hid (Blk.kp2 hka hkb (by first | omega | (simp; omega)) (by first | omega | (simp; omega)) HR1.out))); (try (replace HR2 := Lib.hid (Blk.kp2 hka hkb (by first | omega | (simp; omega)) (by first | omega | (simp; omega)) HR2.out))); (try (replace HR4 := Lib.hid (Blk.kp2 hka hkb (by first | omega | (simp; omega)) (by first | omega | (simp; omega)) HR4.out))); (try (replace HO := Lib.hid (Own.kp3 hka hkb (by first | omega | (simp; omega)) (by first | omega | (simp; omega)) HO.out))); (try replace HS := Lib.hid (Src.kpg2 HS.out (by repeat (with_reducible first | exact Below.refl _ _ | refine Bel.alloc ?_ _ | refine Below.drew ?_ | refine Bel.drewN ?_ _)) hkb (by first | omega | (simp; omega)))); replace HR3 := Lib.hid hBS; replace HK := Lib.hid (Kp.own hkb (by first | omega | (simp; omega)) (Kp.trans HK.out hka)); have hszS := hkb.size_; have hsyS := hka.size_; (try simp only [World.size_alloc, World.size_drew, World.heap_drewN, World.size_setCell] at hszS hsyS); clear hBS hka hkb hlSo; have hlSS := HS.out.lt
        refine hK.out _ _ (⟨HF.out, HU.out, HV.out, HX.out⟩) (fun hHeld => ?_)
        clear hK K
        try simp only [Act.put, List.setIfInBounds_toArray, List.set_cons_zero, List.set_cons_succ]
        refine wpAnyH_ready (rs := [8]) (by kernel_rfl) (by simp) ?_
        refine AllReadyH.cons rfl (fun K hK => ?_) AllReadyH.nil
        refine step_store_part 25 _ _ _ 0 (.agg #[.int .i64 fa, .int .i64 fb]) #[.int .i64 fa, .int .i64 fb] (Blk.kp (Kp.ka0 HK.out (by repeat (with_reducible first | exact Kp.refl _ _ | refine Kp.alloc _ ?_ | refine Kp.drew ?_ | refine Kp.drewN _ ?_))) (by first | omega | (simp; omega)) HR4.out) rfl rfl rfl rfl rfl (by rfl) (by kernel_rfl) (by simp [Value.oneCell']) (by simp) ?_; intro wS hBS hkb; simp only [setL, List.setIfInBounds_toArray, List.set_cons_zero, List.set_cons_succ] at hBS; have hka := Kp.ka HK.out hkb (by repeat (with_reducible first | exact Kp.refl _ _ | refine Kp.alloc _ ?_ | refine Kp.drew ?_ | refine Kp.drewN _ ?_)); have hlSo := HS.out.lt; (try (replace HF := Lib.hid (Blk.kp2 hka hkb (by first | omega | (simp; omega)) (by first | omega | (simp; omega)) HF.out))); (try (replace HU := Lib.hid (Blk.kp2 hka hkb (by first | omega | (simp; omega)) (by first | omega | (simp; omega)) HU.out))); (try (replace HV := Lib.hid (Blk.kp2 hka hkb (by first | omega | (simp; omega)) (by first | omega | (simp; omega)) HV.out))); (try (replace HX := Lib.hid (Blk.kp2 hka hkb (by first | omega | (simp; omega)) (by first | omega | (simp; omega)) HX.out))); (try (replace HR1 := Lib.hid (Blk.kp2 hka hkb (by first | omega | (simp; omega)) (by first | omega | (simp; omega)) HR1.out))); (try (replace HR2 := Lib.hid (Blk.kp2 hka hkb (by first | omega | (simp; omega)) (by first | omega | (simp; omega)) HR2.out))); (try (replace HR3 := Lib.hid (Blk.kp2 hka hkb (by first | omega | (simp; omega)) (by first | omega | (simp; omega)) HR3.out))); (try (replace HO := Lib.hid (Own.kp3 hka hkb (by first | omega | (simp; omega)) (by first | omega | (simp; omega)) HO.out))); (try replace HS := Lib.hid (Src.kpg2 HS.out (by repeat (with_reducible first | exact Below.refl _ _ | refine Bel.alloc ?_ _ | refine Below.drew ?_ | refine Bel.drewN ?_ _)) hkb (by first | omega | (simp; omega)))); replace HR4 := Lib.hid hBS; replace HK := Lib.hid (Kp.own hkb (by first | omega | (simp; omega)) (Kp.trans HK.out hka)); have hszS := hkb.size_; have hsyS := hka.size_; (try simp only [World.size_alloc, World.size_drew, World.heap_drewN, World.size_setCell] at hszS hsyS); clear hBS hka hkb hlSo; have hlSS := HS.out.lt
        refine hK.out _ _ (⟨HF.out, HU.out, HV.out, HX.out⟩) (fun hHeld => ?_)
        clear hK K
        try simp only [Act.put, List.setIfInBounds_toArray, List.set_cons_zero, List.set_cons_succ]
        refine wpAnyH_take (i := 9) (v := (.int .i64 x)) rfl (by kernel_rfl) (by kernel_rfl) (by kernel_rfl) (fun _ _ _ h => h) (Or.inl ⟨by rfl, fun w _ => by simp [go_sem, execOp]⟩) hHeld ?_
        simp only [Act.put, List.getElem_toArray, List.getElem_cons_succ, List.getElem_cons_zero, List.setIfInBounds_toArray, List.set_cons_zero, List.set_cons_succ]
        refine wpAnyH_done (by kernel_rfl) ?_ _
        go_wp2
        all_goals exact bodyPost_ret (results_5 rfl (resF_cell HR1.out Try.underlying30 (by kernel_rfl) rfl) (resF_cell HR2.out Try.underlying25 (by kernel_rfl) rfl) (resF_cell HR3.out Try.underlying25 (by kernel_rfl) rfl) (resF_cell HR4.out Try.underlying25 (by kernel_rfl) rfl) (resF_tmp _ rfl)) rfl ⟨C, g, q, ud, ut, vd, vt, fa, fb, x, rfl, by omega, by omega, Own.ge_mono HO.out (by omega), Kp.toBel HK.out (by omega)⟩
      · go_simp
        go_at_call 112; refine (l01Next_c X A zs _ (by omega) _ (by repeat (with_reducible first | exact HS.out | refine Src.alloc _ ?_ | refine Src.drew ?_ | refine Src.drewN _ ?_ | (refine Src.far _ ?_ ?_; (have := HS.out.lt; first | omega | (simp; omega))) | (refine Src.setRow _ ?_ ?_; (have := HS.out.lt; first | omega | (simp; omega)))))).mono ?_; rintro e w7 ⟨x7, rfl, hx7, hy7, hd7⟩; (try rw [Int.max_eq_left (by omega)] at hy7); have hkb := hd7.kp; have hka := Kp.ka HK.out hkb (by repeat (with_reducible first | exact Kp.refl _ _ | refine Kp.alloc _ ?_ | refine Kp.drew ?_ | refine Kp.drewN _ ?_)); have hlS7 := HS.out.lt; (try (replace HR1 := Lib.hid (Blk.kp2 hka hkb (by first | omega | (simp; omega)) (by first | omega | (simp; omega)) HR1.out))); (try (replace HR2 := Lib.hid (Blk.kp2 hka hkb (by first | omega | (simp; omega)) (by first | omega | (simp; omega)) HR2.out))); (try (replace HR3 := Lib.hid (Blk.kp2 hka hkb (by first | omega | (simp; omega)) (by first | omega | (simp; omega)) HR3.out))); (try (replace HR4 := Lib.hid (Blk.kp2 hka hkb (by first | omega | (simp; omega)) (by first | omega | (simp; omega)) HR4.out))); (try (replace HF := Lib.hid (Blk.kp2 hka hkb (by first | omega | (simp; omega)) (by first | omega | (simp; omega)) HF.out))); (try (replace HU := Lib.hid (Blk.kp2 hka hkb (by first | omega | (simp; omega)) (by first | omega | (simp; omega)) HU.out))); (try (replace HV := Lib.hid (Blk.kp2 hka hkb (by first | omega | (simp; omega)) (by first | omega | (simp; omega)) HV.out))); (try (replace HX := Lib.hid (Blk.kp2 hka hkb (by first | omega | (simp; omega)) (by first | omega | (simp; omega)) HX.out))); (try (replace HO := Lib.hid (Own.kp3 hka hkb (by first | omega | (simp; omega)) (by first | omega | (simp; omega)) HO.out))); replace HK := Lib.hid (Kp.trans HK.out (Kp.trans hka hkb)); have hsz7 := hkb.size_; have hsy7 := hka.size_; (try simp only [World.size_alloc, World.size_drew, World.heap_drewN, World.size_setCell] at hsz7 hsy7); replace HS := Lib.hid hd7.src; clear hka hkb hd7 hlS7; have hlS7 := HS.out.lt
        refine hK.out _ _ (trivial) (fun hHeld => ?_)
        clear hK K
        try simp only [Act.put, List.setIfInBounds_toArray, List.set_cons_zero, List.set_cons_succ]
        have c0 : w7.cell? ⟨w3.heap.size, 0, none⟩ = some (.int .i64 ea) := by rw [HX.out.cell]; rfl
        refine wpAnyH_ready (rs := [1]) (by kernel_rfl) (by simp) ?_
        refine AllReadyH.cons rfl (fun K hK => ?_) AllReadyH.nil
        go_simp
        refine hK.out _ _ (trivial) (fun hHeld => ?_)
        clear hK K
        try simp only [Act.put, List.setIfInBounds_toArray, List.set_cons_zero, List.set_cons_succ]
        clear c0
        refine wpAnyH_ready (rs := [4]) (by kernel_rfl) (by simp) ?_
        refine AllReadyH.cons rfl (fun K hK => ?_) AllReadyH.nil
        go_simp
        refine hK.out _ _ (trivial) (fun hHeld => ?_)
        clear hK K
        try simp only [Act.put, List.setIfInBounds_toArray, List.set_cons_zero, List.set_cons_succ]
        refine wpAnyH_ready (rs := [5]) (by kernel_rfl) (by simp) ?_
        refine AllReadyH.cons rfl (fun K hK => ?_) AllReadyH.nil
        go_simp
        refine hK.out _ _ (trivial) (fun hHeld => ?_)
        clear hK K
        try simp only [Act.put, List.setIfInBounds_toArray, List.set_cons_zero, List.set_cons_succ]
        refine wpAnyH_ready (rs := [6]) (by kernel_rfl) (by simp) ?_
        refine AllReadyH.cons rfl (fun K hK => ?_) AllReadyH.nil
        go_simp
        refine hK.out _ _ (trivial) (fun hHeld => ?_)
        clear hK K
        try simp only [Act.put, List.setIfInBounds_toArray, List.set_cons_zero, List.set_cons_succ]
        refine wpAnyH_ready (rs := [7]) (by kernel_rfl) (by simp) ?_
        refine AllReadyH.cons rfl (fun K hK => ?_) AllReadyH.nil
        go_simp
        refine hK.out _ _ (trivial) (fun hHeld => ?_)
        clear hK K
        try simp only [Act.put, List.setIfInBounds_toArray, List.set_cons_zero, List.set_cons_succ]
        refine wpAnyH_take (i := 8) (v := (.pointer (some ⟨w3.heap.size, 0, none⟩))) rfl (by kernel_rfl) (by kernel_rfl) (by kernel_rfl) (fun _ _ _ h => h) (Or.inl ⟨by rfl, fun w _ => by simp [go_sem, execOp]⟩) hHeld ?_
        simp only [Act.put, List.getElem_toArray, List.getElem_cons_succ, List.getElem_cons_zero, List.setIfInBounds_toArray, List.set_cons_zero, List.set_cons_succ]
        refine wpAnyH_ready (rs := [9]) (by kernel_rfl) (by simp) ?_
        refine AllReadyH.cons rfl (fun K hK => ?_) AllReadyH.nil
        refine step_store_part 2 _ _ _ 0 _ _ (Blk.kp (Kp.ka0 HK.out (by repeat (with_reducible first | exact Kp.refl _ _ | refine Kp.alloc _ ?_ | refine Kp.drew ?_ | refine Kp.drewN _ ?_))) (by first | omega | (simp; omega)) HX.out) rfl rfl rfl rfl rfl (by rfl) (by kernel_rfl) (by simp [go_sem, Value.cells, Value.oneCell']) (by simp [go_sem, Value.cells]) ?_; intro wS hBS hkb; simp [go_sem, Value.cells, setL] at hBS; have hka := Kp.ka HK.out hkb (by repeat (with_reducible first | exact Kp.refl _ _ | refine Kp.alloc _ ?_ | refine Kp.drew ?_ | refine Kp.drewN _ ?_)); have hlSo := HS.out.lt; (try (replace HR1 := Lib.hid (Blk.kp2 hka hkb (by first | omega | (simp; omega)) (by first | omega | (simp; omega)) HR1.out))); (try (replace HR2 := Lib.hid (Blk.kp2 hka hkb (by first | omega | (simp; omega)) (by first | omega | (simp; omega)) HR2.out))); (try (replace HR3 := Lib.hid (Blk.kp2 hka hkb (by first | omega | (simp; omega)) (by first | omega | (simp; omega)) HR3.out))); (try (replace HR4 := Lib.hid (Blk.kp2 hka hkb (by first | omega | (simp; omega)) (by first | omega | (simp; omega)) HR4.out))); (try (replace HF := Lib.hid (Blk.kp2 hka hkb (by first | omega | (simp; omega)) (by first | omega | (simp; omega)) HF.out))); (try (replace HU := Lib.hid (Blk.kp2 hka hkb (by first | omega | (simp; omega)) (by first | omega | (simp; omega)) HU.out))); (try (replace HV := Lib.hid (Blk.kp2 hka hkb (by first | omega | (simp; omega)) (by first | omega | (simp; omega)) HV.out))); (try (replace HO := Lib.hid (Own.kp3 hka hkb (by first | omega | (simp; omega)) (by first | omega | (simp; omega)) HO.out))); (try replace HS := Lib.hid (Src.kpg2 HS.out (by repeat (with_reducible first | exact Below.refl _ _ | refine Bel.alloc ?_ _ | refine Below.drew ?_ | refine Bel.drewN ?_ _)) hkb (by first | omega | (simp; omega)))); replace HX := Lib.hid hBS; replace HK := Lib.hid (Kp.own hkb (by first | omega | (simp; omega)) (Kp.trans HK.out hka)); have hszS := hkb.size_; have hsyS := hka.size_; (try simp only [World.size_alloc, World.size_drew, World.heap_drewN, World.size_setCell] at hszS hsyS); clear hBS hka hkb hlSo; have hlSS := HS.out.lt
        refine hK.out _ _ (trivial) (fun hHeld => ?_)
        clear hK K
        try simp only [Act.put, List.setIfInBounds_toArray, List.set_cons_zero, List.set_cons_succ]
        refine wpAnyH_done (by kernel_rfl) ?_ _
        have hX2 : ∃ z : Int, Hid (Blk wS w3.heap.size 25 #[.int .i64 z, .int .i64 eb]) := ⟨_, HX⟩
        clear HX
        obtain ⟨fa, HX⟩ := hX2
        go_upto_region 8 with (fail)
        obtain ⟨V2, rfl⟩ : ∃ U : World, U = wS := ⟨_, rfl⟩
        obtain ⟨fb, rfl⟩ : ∃ z : Int, z = eb := ⟨_, rfl⟩
        have hlX2 := HX.out.lt
        refine wp_region_held_drew (S := fun W => Blk W w2.heap.size 30 #[.int .i64 C.dg, .int .i64 C.tn, .string C.nm, .slice (some ⟨g, 0, none⟩) C.zs.length q, .int .i64 C.wd, .int .i64 C.lf, .int .i64 C.rt] ∧ Blk W (w2.heap.size + 1) 25 #[.int .i64 ud, .int .i64 ut] ∧ Blk W (w2.heap.size + 1 + 1) 25 #[.int .i64 vd, .int .i64 vt] ∧ Blk W w3.heap.size 25 #[.int .i64 fa, .int .i64 fb]) (by kernel_rfl) (⟨HF.out.drew, HU.out.drew, HV.out.drew, HX.out.drew⟩) (fun hHeld => ?_)
        replace HR1 := Lib.hid HR1.out.drew
        replace HR2 := Lib.hid HR2.out.drew
        replace HR3 := Lib.hid HR3.out.drew
        replace HR4 := Lib.hid HR4.out.drew
        replace HF := Lib.hid HF.out.drew
        replace HU := Lib.hid HU.out.drew
        replace HV := Lib.hid HV.out.drew
        replace HX := Lib.hid HX.out.drew
        replace HO := Lib.hid HO.out.drew
        replace HS := Lib.hid HS.out.drew
        replace HK := Lib.hid HK.out.drew
        have hsd : V2.drew.heap.size = V2.heap.size := rfl
        rw [← hsd] at hlX2
        clear hsd
        generalize V2.drew = v2 at HR1 HR2 HR3 HR4 HF HU HV HX HO HS HK hHeld hlX2 ⊢
        refine wpAnyH_take (i := 0) (v := .agg #[.int .i64 C.dg, .int .i64 C.tn, .string C.nm, .slice (some ⟨g, 0, none⟩) C.zs.length q, .int .i64 C.wd, .int .i64 C.lf, .int .i64 C.rt]) rfl (by kernel_rfl) (by kernel_rfl) (by kernel_rfl) (fun _ _ _ h => h) (yieldsIf_load_blk 30 _ (w2.heap.size) (fun _ h => h.1) Try.underlying30 (by kernel_rfl) (by rfl) rfl rfl) hHeld ?_
        simp only [Act.put, List.getElem_toArray, List.getElem_cons_succ, List.getElem_cons_zero, List.setIfInBounds_toArray, List.set_cons_zero, List.set_cons_succ]
        refine wpAnyH_take (i := 1) (v := .agg #[.int .i64 ud, .int .i64 ut]) rfl (by kernel_rfl) (by kernel_rfl) (by kernel_rfl) (fun _ _ _ h => h) (yieldsIf_load_blk 25 _ ((w2.heap.size + 1)) (fun _ h => h.2.1) Try.underlying25 (by kernel_rfl) (by rfl) rfl rfl) hHeld ?_
        simp only [Act.put, List.getElem_toArray, List.getElem_cons_succ, List.getElem_cons_zero, List.setIfInBounds_toArray, List.set_cons_zero, List.set_cons_succ]
        refine wpAnyH_take (i := 2) (v := .agg #[.int .i64 vd, .int .i64 vt]) rfl (by kernel_rfl) (by kernel_rfl) (by kernel_rfl) (fun _ _ _ h => h) (yieldsIf_load_blk 25 _ ((w2.heap.size + 1 + 1)) (fun _ h => h.2.2.1) Try.underlying25 (by kernel_rfl) (by rfl) rfl rfl) hHeld ?_
        simp only [Act.put, List.getElem_toArray, List.getElem_cons_succ, List.getElem_cons_zero, List.setIfInBounds_toArray, List.set_cons_zero, List.set_cons_succ]
        refine wpAnyH_take (i := 3) (v := .agg #[.int .i64 fa, .int .i64 fb]) rfl (by kernel_rfl) (by kernel_rfl) (by kernel_rfl) (fun _ _ _ h => h) (yieldsIf_load_blk 25 _ (w3.heap.size) (fun _ h => h.2.2.2) Try.underlying25 (by kernel_rfl) (by rfl) rfl rfl) hHeld ?_
        simp only [Act.put, List.getElem_toArray, List.getElem_cons_succ, List.getElem_cons_zero, List.setIfInBounds_toArray, List.set_cons_zero, List.set_cons_succ]
        refine wpAnyH_take (i := 4) (v := (.int .i64 x)) rfl (by kernel_rfl) (by kernel_rfl) (by kernel_rfl) (fun _ _ _ h => h) (Or.inl ⟨by rfl, fun w _ => by simp [go_sem, execOp]⟩) hHeld ?_
        simp only [Act.put, List.getElem_toArray, List.getElem_cons_succ, List.getElem_cons_zero, List.setIfInBounds_toArray, List.set_cons_zero, List.set_cons_succ]
        refine wpAnyH_ready (rs := [5]) (by kernel_rfl) (by simp) ?_
        refine AllReadyH.cons rfl (fun K hK => ?_) AllReadyH.nil
        refine step_store_part 30 _ _ _ 0 (.agg #[.int .i64 C.dg, .int .i64 C.tn, .string C.nm, .slice (some ⟨g, 0, none⟩) C.zs.length q, .int .i64 C.wd, .int .i64 C.lf, .int .i64 C.rt]) #[.int .i64 C.dg, .int .i64 C.tn, .string C.nm, .slice (some ⟨g, 0, none⟩) C.zs.length q, .int .i64 C.wd, .int .i64 C.lf, .int .i64 C.rt] (Blk.kp (Kp.ka0 HK.out (by repeat (with_reducible first | exact Kp.refl _ _ | refine Kp.alloc _ ?_ | refine Kp.drew ?_ | refine Kp.drewN _ ?_))) (by first | omega | (simp; omega)) HR1.out) rfl rfl rfl rfl rfl (by rfl) (by kernel_rfl) (by simp [Value.oneCell']) (by simp) ?_; intro wS hBS hkb; simp only [setL, List.setIfInBounds_toArray, List.set_cons_zero, List.set_cons_succ] at hBS; have hka := Kp.ka HK.out hkb (by repeat (with_reducible first | exact Kp.refl _ _ | refine Kp.alloc _ ?_ | refine Kp.drew ?_ | refine Kp.drewN _ ?_)); have hlSo := HS.out.lt; (try (replace HF := Lib.hid (Blk.kp2 hka hkb (by first | omega | (simp; omega)) (by first | omega | (simp; omega)) HF.out))); (try (replace HU := Lib.hid (Blk.kp2 hka hkb (by first | omega | (simp; omega)) (by first | omega | (simp; omega)) HU.out))); (try (replace HV := Lib.hid (Blk.kp2 hka hkb (by first | omega | (simp; omega)) (by first | omega | (simp; omega)) HV.out))); (try (replace HX := Lib.hid (Blk.kp2 hka hkb (by first | omega | (simp; omega)) (by first | omega | (simp; omega)) HX.out))); (try (replace HR2 := Lib.hid (Blk.kp2 hka hkb (by first | omega | (simp; omega)) (by first | omega | (simp; omega)) HR2.out))); (try (replace HR3 := Lib.hid (Blk.kp2 hka hkb (by first | omega | (simp; omega)) (by first | omega | (simp; omega)) HR3.out))); (try (replace HR4 := Lib.hid (Blk.kp2 hka hkb (by first | omega | (simp; omega)) (by first | omega | (simp; omega)) HR4.out))); (try (replace HO := Lib.hid (Own.kp3 hka hkb (by first | omega | (simp; omega)) (by first | omega | (simp; omega)) HO.out))); (try replace HS := Lib.hid (Src.kpg2 HS.out (by repeat (with_reducible first | exact Below.refl _ _ | refine Bel.alloc ?_ _ | refine Below.drew ?_ | refine Bel.drewN ?_ _)) hkb (by first | omega | (simp; omega)))); replace HR1 := Lib.hid hBS; replace HK := Lib.hid (Kp.own hkb (by first | omega | (simp; omega)) (Kp.trans HK.out hka)); have hszS := hkb.size_; have hsyS := hka.size_; (try simp only [World.size_alloc, World.size_drew, World.heap_drewN, World.size_setCell] at hszS hsyS); clear hBS hka hkb hlSo; have hlSS := HS.out.lt
        refine hK.out _ _ (⟨HF.out, HU.out, HV.out, HX.out⟩) (fun hHeld => ?_)
        clear hK K
        try simp only [Act.put, List.setIfInBounds_toArray, List.set_cons_zero, List.set_cons_succ]
        refine wpAnyH_ready (rs := [6]) (by kernel_rfl) (by simp) ?_
        refine AllReadyH.cons rfl (fun K hK => ?_) AllReadyH.nil
        refine step_store_part 25 _ _ _ 0 (.agg #[.int .i64 ud, .int .i64 ut]) #[.int .i64 ud, .int .i64 ut] (Blk.kp (Kp.ka0 HK.out (by repeat (with_reducible first | exact Kp.refl _ _ | refine Kp.alloc _ ?_ | refine Kp.drew ?_ | refine Kp.drewN _ ?_))) (by first | omega | (simp; omega)) HR2.out) rfl rfl rfl rfl rfl (by rfl) (by kernel_rfl) (by simp [Value.oneCell']) (by simp) ?_; intro wS hBS hkb; simp only [setL, List.setIfInBounds_toArray, List.set_cons_zero, List.set_cons_succ] at hBS; have hka := Kp.ka HK.out hkb (by repeat (with_reducible first | exact Kp.refl _ _ | refine Kp.alloc _ ?_ | refine Kp.drew ?_ | refine Kp.drewN _ ?_)); have hlSo := HS.out.lt; (try (replace HF := Lib.hid (Blk.kp2 hka hkb (by first | omega | (simp; omega)) (by first | omega | (simp; omega)) HF.out))); (try (replace HU := Lib.hid (Blk.kp2 hka hkb (by first | omega | (simp; omega)) (by first | omega | (simp; omega)) HU.out))); (try (replace HV := Lib.hid (Blk.kp2 hka hkb (by first | omega | (simp; omega)) (by first | omega | (simp; omega)) HV.out))); (try (replace HX := Lib.hid (Blk.kp2 hka hkb (by first | omega | (simp; omega)) (by first | omega | (simp; omega)) HX.out))); (try (replace HR1 := Lib.hid (Blk.kp2 hka hkb (by first | omega | (simp; omega)) (by first | omega | (simp; omega)) HR1.out))); (try (replace HR3 := Lib.hid (Blk.kp2 hka hkb (by first | omega | (simp; omega)) (by first | omega | (simp; omega)) HR3.out))); (try (replace HR4 := Lib.hid (Blk.kp2 hka hkb (by first | omega | (simp; omega)) (by first | omega | (simp; omega)) HR4.out))); (try (replace HO := Lib.hid (Own.kp3 hka hkb (by first | omega | (simp; omega)) (by first | omega | (simp; omega)) HO.out))); (try replace HS := Lib.hid (Src.kpg2 HS.out (by repeat (with_reducible first | exact Below.refl _ _ | refine Bel.alloc ?_ _ | refine Below.drew ?_ | refine Bel.drewN ?_ _)) hkb (by first | omega | (simp; omega)))); replace HR2 := Lib.hid hBS; replace HK := Lib.hid (Kp.own hkb (by first | omega | (simp; omega)) (Kp.trans HK.out hka)); have hszS := hkb.size_; have hsyS := hka.size_; (try simp only [World.size_alloc, World.size_drew, World.heap_drewN, World.size_setCell] at hszS hsyS); clear hBS hka hkb hlSo; have hlSS := HS.out.lt
        refine hK.out _ _ (⟨HF.out, HU.out, HV.out, HX.out⟩) (fun hHeld => ?_)
        clear hK K
        try simp only [Act.put, List.setIfInBounds_toArray, List.set_cons_zero, List.set_cons_succ]
        refine wpAnyH_ready (rs := [7]) (by kernel_rfl) (by simp) ?_
        refine AllReadyH.cons rfl (fun K hK => ?_) AllReadyH.nil
        refine step_store_part 25 _ _ _ 0 (.agg #[.int .i64 vd, .int .i64 vt]) #[.int .i64 vd, .int .i64 vt] (Blk.kp (Kp.ka0 HK.out (by repeat (with_reducible first | exact Kp.refl _ _ | refine Kp.alloc _ ?_ | refine Kp.drew ?_ | refine Kp.drewN _ ?_))) (by first | omega | (simp; omega)) HR3.out) rfl rfl rfl rfl rfl (by rfl) (by kernel_rfl) (by simp [Value.oneCell']) (by simp) ?_; intro wS hBS hkb; simp only [setL, List.setIfInBounds_toArray, List.set_cons_zero, List.set_cons_succ] at hBS; have hka := Kp.ka HK.out hkb (by repeat (with_reducible first | exact Kp.refl _ _ | refine Kp.alloc _ ?_ | refine Kp.drew ?_ | refine Kp.drewN _ ?_)); have hlSo := HS.out.lt; (try (replace HF := Lib.hid (Blk.kp2 hka hkb (by first | omega | (simp; omega)) (by first | omega | (simp; omega)) HF.out))); (try (replace HU := Lib.hid (Blk.kp2 hka hkb (by first | omega | (simp; omega)) (by first | omega | (simp; omega)) HU.out))); (try (replace HV := Lib.hid (Blk.kp2 hka hkb (by first | omega | (simp; omega)) (by first | omega | (simp; omega)) HV.out))); (try (replace HX := Lib.hid (Blk.kp2 hka hkb (by first | omega | (simp; omega)) (by first | omega | (simp; omega)) HX.out))); (try (replace HR1 := Lib.hid (Blk.kp2 hka hkb (by first | omega | (simp; omega)) (by first | omega | (simp; omega)) HR1.out))); (try (replace HR2 := Lib.hid (Blk.kp2 hka hkb (by first | omega | (simp; omega)) (by first | omega | (simp; omega)) HR2.out))); (try (replace HR4 := Lib.hid (Blk.kp2 hka hkb (by first | omega | (simp; omega)) (by first | omega | (simp; omega)) HR4.out))); (try (replace HO := Lib.hid (Own.kp3 hka hkb (by first | omega | (simp; omega)) (by first | omega | (simp; omega)) HO.out))); (try replace HS := Lib.hid (Src.kpg2 HS.out (by repeat (with_reducible first | exact Below.refl _ _ | refine Bel.alloc ?_ _ | refine Below.drew ?_ | refine Bel.drewN ?_ _)) hkb (by first | omega | (simp; omega)))); replace HR3 := Lib.hid hBS; replace HK := Lib.hid (Kp.own hkb (by first | omega | (simp; omega)) (Kp.trans HK.out hka)); have hszS := hkb.size_; have hsyS := hka.size_; (try simp only [World.size_alloc, World.size_drew, World.heap_drewN, World.size_setCell] at hszS hsyS); clear hBS hka hkb hlSo; have hlSS := HS.out.lt
        refine hK.out _ _ (⟨HF.out, HU.out, HV.out, HX.out⟩) (fun hHeld => ?_)
        clear hK K
        try simp only [Act.put, List.setIfInBounds_toArray, List.set_cons_zero, List.set_cons_succ]
        refine wpAnyH_ready (rs := [8]) (by kernel_rfl) (by simp) ?_
        refine AllReadyH.cons rfl (fun K hK => ?_) AllReadyH.nil
        refine step_store_part 25 _ _ _ 0 (.agg #[.int .i64 fa, .int .i64 fb]) #[.int .i64 fa, .int .i64 fb] (Blk.kp (Kp.ka0 HK.out (by repeat (with_reducible first | exact Kp.refl _ _ | refine Kp.alloc _ ?_ | refine Kp.drew ?_ | refine Kp.drewN _ ?_))) (by first | omega | (simp; omega)) HR4.out) rfl rfl rfl rfl rfl (by rfl) (by kernel_rfl) (by simp [Value.oneCell']) (by simp) ?_; intro wS hBS hkb; simp only [setL, List.setIfInBounds_toArray, List.set_cons_zero, List.set_cons_succ] at hBS; have hka := Kp.ka HK.out hkb (by repeat (with_reducible first | exact Kp.refl _ _ | refine Kp.alloc _ ?_ | refine Kp.drew ?_ | refine Kp.drewN _ ?_)); have hlSo := HS.out.lt; (try (replace HF := Lib.hid (Blk.kp2 hka hkb (by first | omega | (simp; omega)) (by first | omega | (simp; omega)) HF.out))); (try (replace HU := Lib.hid (Blk.kp2 hka hkb (by first | omega | (simp; omega)) (by first | omega | (simp; omega)) HU.out))); (try (replace HV := Lib.hid (Blk.kp2 hka hkb (by first | omega | (simp; omega)) (by first | omega | (simp; omega)) HV.out))); (try (replace HX := Lib.hid (Blk.kp2 hka hkb (by first | omega | (simp; omega)) (by first | omega | (simp; omega)) HX.out))); (try (replace HR1 := Lib.hid (Blk.kp2 hka hkb (by first | omega | (simp; omega)) (by first | omega | (simp; omega)) HR1.out))); (try (replace HR2 := Lib.hid (Blk.kp2 hka hkb (by first | omega | (simp; omega)) (by first | omega | (simp; omega)) HR2.out))); (try (replace HR3 := Lib.hid (Blk.kp2 hka hkb (by first | omega | (simp; omega)) (by first | omega | (simp; omega)) HR3.out))); (try (replace HO := Lib.hid (Own.kp3 hka hkb (by first | omega | (simp; omega)) (by first | omega | (simp; omega)) HO.out))); (try replace HS := Lib.hid (Src.kpg2 HS.out (by repeat (with_reducible first | exact Below.refl _ _ | refine Bel.alloc ?_ _ | refine Below.drew ?_ | refine Bel.drewN ?_ _)) hkb (by first | omega | (simp; omega)))); replace HR4 := Lib.hid hBS; replace HK := Lib.hid (Kp.own hkb (by first | omega | (simp; omega)) (Kp.trans HK.out hka)); have hszS := hkb.size_; have hsyS := hka.size_; (try simp only [World.size_alloc, World.size_drew, World.heap_drewN, World.size_setCell] at hszS hsyS); clear hBS hka hkb hlSo; have hlSS := HS.out.lt
        refine hK.out _ _ (⟨HF.out, HU.out, HV.out, HX.out⟩) (fun hHeld => ?_)
        clear hK K
        try simp only [Act.put, List.setIfInBounds_toArray, List.set_cons_zero, List.set_cons_succ]
        refine wpAnyH_take (i := 9) (v := (.int .i64 x)) rfl (by kernel_rfl) (by kernel_rfl) (by kernel_rfl) (fun _ _ _ h => h) (Or.inl ⟨by rfl, fun w _ => by simp [go_sem, execOp]⟩) hHeld ?_
        simp only [Act.put, List.getElem_toArray, List.getElem_cons_succ, List.getElem_cons_zero, List.setIfInBounds_toArray, List.set_cons_zero, List.set_cons_succ]
        refine wpAnyH_done (by kernel_rfl) ?_ _
        go_wp2
        all_goals exact bodyPost_ret (results_5 rfl (resF_cell HR1.out Try.underlying30 (by kernel_rfl) rfl) (resF_cell HR2.out Try.underlying25 (by kernel_rfl) rfl) (resF_cell HR3.out Try.underlying25 (by kernel_rfl) rfl) (resF_cell HR4.out Try.underlying25 (by kernel_rfl) rfl) (resF_tmp _ rfl)) rfl ⟨C, g, q, ud, ut, vd, vt, fa, fb, x, rfl, by omega, by omega, Own.ge_mono HO.out (by omega), Kp.toBel HK.out (by omega)⟩
    · obtain rfl : x6 = 1 := by omega
      have n0 : (w6.alloc (.cells #[.int .i64 e0, .int .i64 e1, .int .i64 e2, .int .i64 e3] 25)).cell? ⟨w6.heap.size, 0, none⟩ = some (.int .i64 e0) := by rw [HN.out.cell]; rfl
      have n1 : (w6.alloc (.cells #[.int .i64 e0, .int .i64 e1, .int .i64 e2, .int .i64 e3] 25)).cell? ⟨w6.heap.size, 1, none⟩ = some (.int .i64 e1) := by rw [HN.out.cell]; rfl
      have n2 : (w6.alloc (.cells #[.int .i64 e0, .int .i64 e1, .int .i64 e2, .int .i64 e3] 25)).cell? ⟨w6.heap.size, 2, none⟩ = some (.int .i64 e2) := by rw [HN.out.cell]; rfl
      have n3 : (w6.alloc (.cells #[.int .i64 e0, .int .i64 e1, .int .i64 e2, .int .i64 e3] 25)).cell? ⟨w6.heap.size, 3, none⟩ = some (.int .i64 e3) := by rw [HN.out.cell]; rfl
      refine wpAnyH_ready (rs := [5]) (by kernel_rfl) (by simp) ?_
      refine AllReadyH.cons rfl (fun K hK => ?_) AllReadyH.nil
      go_simp
      refine hK.out _ _ (⟨HL.out, HM.out⟩) (fun hHeld => ?_)
      clear hK K
      try simp only [Act.put, List.setIfInBounds_toArray, List.set_cons_zero, List.set_cons_succ]
      refine wpAnyH_ready (rs := [6]) (by kernel_rfl) (by simp) ?_
      refine AllReadyH.cons rfl (fun K hK => ?_) AllReadyH.nil
      go_simp
      refine hK.out _ _ (⟨HL.out, HM.out⟩) (fun hHeld => ?_)
      clear hK K
      try simp only [Act.put, List.setIfInBounds_toArray, List.set_cons_zero, List.set_cons_succ]
      clear n0 n1 n2 n3
      refine wpAnyH_ready (rs := [7]) (by kernel_rfl) (by simp) ?_
      refine AllReadyH.cons rfl (fun K hK => ?_) AllReadyH.nil
      refine step_store_part 25 _ _ _ 0 (.agg #[.int .i64 e2, .int .i64 e3]) #[.int .i64 e2, .int .i64 e3] (Blk.kp (Kp.ka0 HK.out (by repeat (with_reducible first | exact Kp.refl _ _ | refine Kp.alloc _ ?_ | refine Kp.drew ?_ | refine Kp.drewN _ ?_))) (by first | omega | (simp; omega)) HX.out) rfl rfl rfl rfl rfl (by rfl) (by kernel_rfl) (by simp [Value.oneCell']) (by simp) ?_; intro wS hBS hkb; simp only [setL, List.setIfInBounds_toArray, List.set_cons_zero, List.set_cons_succ] at hBS; have hka := Kp.ka HK.out hkb (by repeat (with_reducible first | exact Kp.refl _ _ | refine Kp.alloc _ ?_ | refine Kp.drew ?_ | refine Kp.drewN _ ?_)); have hlSo := HS.out.lt; (try (replace HR1 := Lib.hid (Blk.kp2 hka hkb (by first | omega | (simp; omega)) (by first | omega | (simp; omega)) HR1.out))); (try (replace HR2 := Lib.hid (Blk.kp2 hka hkb (by first | omega | (simp; omega)) (by first | omega | (simp; omega)) HR2.out))); (try (replace HR3 := Lib.hid (Blk.kp2 hka hkb (by first | omega | (simp; omega)) (by first | omega | (simp; omega)) HR3.out))); (try (replace HR4 := Lib.hid (Blk.kp2 hka hkb (by first | omega | (simp; omega)) (by first | omega | (simp; omega)) HR4.out))); (try (replace HF := Lib.hid (Blk.kp2 hka hkb (by first | omega | (simp; omega)) (by first | omega | (simp; omega)) HF.out))); (try (replace HU := Lib.hid (Blk.kp2 hka hkb (by first | omega | (simp; omega)) (by first | omega | (simp; omega)) HU.out))); (try (replace HV := Lib.hid (Blk.kp2 hka hkb (by first | omega | (simp; omega)) (by first | omega | (simp; omega)) HV.out))); (try (replace HL := Lib.hid (Blk.kp2 hka hkb (by first | omega | (simp; omega)) (by first | omega | (simp; omega)) HL.out))); (try (replace HM := Lib.hid (Blk.kp2 hka hkb (by first | omega | (simp; omega)) (by first | omega | (simp; omega)) HM.out))); (try (replace HO := Lib.hid (Own.kp3 hka hkb (by first | omega | (simp; omega)) (by first | omega | (simp; omega)) HO.out))); (try replace HS := Lib.hid (Src.kpg2 HS.out (by repeat (with_reducible first | exact Below.refl _ _ | refine Bel.alloc ?_ _ | refine Below.drew ?_ | refine Bel.drewN ?_ _)) hkb (by first | omega | (simp; omega)))); replace HX := Lib.hid hBS; replace HK := Lib.hid (Kp.own hkb (by first | omega | (simp; omega)) (Kp.trans HK.out hka)); have hszS := hkb.size_; have hsyS := hka.size_; (try simp only [World.size_alloc, World.size_drew, World.heap_drewN, World.size_setCell] at hszS hsyS); clear hBS hka hkb hlSo; have hlSS := HS.out.lt
      refine hK.out _ _ (⟨HL.out, HM.out⟩) (fun hHeld => ?_)
      clear hK K
      try simp only [Act.put, List.setIfInBounds_toArray, List.set_cons_zero, List.set_cons_succ]
      refine wpAnyH_done (by kernel_rfl) ?_ _
      obtain ⟨V1, rfl⟩ : ∃ U : World, U = wS := ⟨_, rfl⟩
      obtain ⟨ea, rfl⟩ : ∃ z : Int, z = e2 := ⟨_, rfl⟩
      obtain ⟨eb, rfl⟩ : ∃ z : Int, z = e3 := ⟨_, rfl⟩
      go_upto_region 7 with (fail)
      have hlX1 := HX.out.lt
      refine wp_region_held_drew (S := fun W => True) (by kernel_rfl) (trivial) (fun hHeld => ?_)
      replace HR1 := Lib.hid HR1.out.drew
      replace HR2 := Lib.hid HR2.out.drew
      replace HR3 := Lib.hid HR3.out.drew
      replace HR4 := Lib.hid HR4.out.drew
      replace HF := Lib.hid HF.out.drew
      replace HU := Lib.hid HU.out.drew
      replace HV := Lib.hid HV.out.drew
      replace HX := Lib.hid HX.out.drew
      replace HO := Lib.hid HO.out.drew
      replace HS := Lib.hid HS.out.drew
      replace HK := Lib.hid HK.out.drew
      have hsd : V1.drew.heap.size = V1.heap.size := rfl
      rw [← hsd] at hlX1
      clear hsd
      generalize V1.drew = v1 at HR1 HR2 HR3 HR4 HF HU HV HX HO HS HK hHeld hlX1 ⊢
      refine wpAnyH_take (i := 0) (v := (.pointer (some ⟨w3.heap.size, 0, none⟩))) rfl (by kernel_rfl) (by kernel_rfl) (by kernel_rfl) (fun _ _ _ h => h) (Or.inl ⟨by rfl, fun w _ => by simp [go_sem, execOp]⟩) hHeld ?_
      simp only [Act.put, List.getElem_toArray, List.getElem_cons_succ, List.getElem_cons_zero, List.setIfInBounds_toArray, List.set_cons_zero, List.set_cons_succ]
      refine wpAnyH_take (i := 2) (v := (.pointer (some ⟨X, 0, none⟩))) rfl (by kernel_rfl) (by kernel_rfl) (by kernel_rfl) (fun _ _ _ h => h) (Or.inl ⟨by rfl, fun w _ => by simp [go_sem, execOp]⟩) hHeld ?_
      simp only [Act.put, List.getElem_toArray, List.getElem_cons_succ, List.getElem_cons_zero, List.setIfInBounds_toArray, List.set_cons_zero, List.set_cons_succ]
      refine wpAnyH_ready (rs := [1, 3]) (by kernel_rfl) (by simp) ?_
      refine AllReadyH.cons rfl (fun K hK => ?_) (AllReadyH.cons rfl (fun K hK => ?_) (AllReadyH.nil))
      · have c0 : v1.cell? ⟨w3.heap.size, 0, none⟩ = some (.int .i64 ea) := by rw [HX.out.cell]; rfl
        go_simp
        refine hK.out _ _ (trivial) (fun hHeld => ?_)
        clear hK K
        try simp only [Act.put, List.setIfInBounds_toArray, List.set_cons_zero, List.set_cons_succ]
        clear c0
        refine wpAnyH_ready (rs := [3]) (by kernel_rfl) (by simp) ?_
        refine AllReadyH.cons rfl (fun K hK => ?_) AllReadyH.nil
        go_simp
        go_at_call 112; refine (l01Next_c X A zs _ (by omega) _ (by repeat (with_reducible first | exact HS.out | refine Src.alloc _ ?_ | refine Src.drew ?_ | refine Src.drewN _ ?_ | (refine Src.far _ ?_ ?_; (have := HS.out.lt; first | omega | (simp; omega))) | (refine Src.setRow _ ?_ ?_; (have := HS.out.lt; first | omega | (simp; omega)))))).mono ?_; rintro e w7 ⟨x7, rfl, hx7, hy7, hd7⟩; (try rw [Int.max_eq_left (by omega)] at hy7); have hkb := hd7.kp; have hka := Kp.ka HK.out hkb (by repeat (with_reducible first | exact Kp.refl _ _ | refine Kp.alloc _ ?_ | refine Kp.drew ?_ | refine Kp.drewN _ ?_)); have hlS7 := HS.out.lt; (try (replace HR1 := Lib.hid (Blk.kp2 hka hkb (by first | omega | (simp; omega)) (by first | omega | (simp; omega)) HR1.out))); (try (replace HR2 := Lib.hid (Blk.kp2 hka hkb (by first | omega | (simp; omega)) (by first | omega | (simp; omega)) HR2.out))); (try (replace HR3 := Lib.hid (Blk.kp2 hka hkb (by first | omega | (simp; omega)) (by first | omega | (simp; omega)) HR3.out))); (try (replace HR4 := Lib.hid (Blk.kp2 hka hkb (by first | omega | (simp; omega)) (by first | omega | (simp; omega)) HR4.out))); (try (replace HF := Lib.hid (Blk.kp2 hka hkb (by first | omega | (simp; omega)) (by first | omega | (simp; omega)) HF.out))); (try (replace HU := Lib.hid (Blk.kp2 hka hkb (by first | omega | (simp; omega)) (by first | omega | (simp; omega)) HU.out))); (try (replace HV := Lib.hid (Blk.kp2 hka hkb (by first | omega | (simp; omega)) (by first | omega | (simp; omega)) HV.out))); (try (replace HX := Lib.hid (Blk.kp2 hka hkb (by first | omega | (simp; omega)) (by first | omega | (simp; omega)) HX.out))); (try (replace HO := Lib.hid (Own.kp3 hka hkb (by first | omega | (simp; omega)) (by first | omega | (simp; omega)) HO.out))); replace HK := Lib.hid (Kp.trans HK.out (Kp.trans hka hkb)); have hsz7 := hkb.size_; have hsy7 := hka.size_; (try simp only [World.size_alloc, World.size_drew, World.heap_drewN, World.size_setCell] at hsz7 hsy7); replace HS := Lib.hid hd7.src; clear hka hkb hd7 hlS7; have hlS7 := HS.out.lt
        go_wp2_with fail
        refine hK.out _ _ (trivial) (fun hHeld => ?_)
        clear hK K
        try simp only [Act.put, List.setIfInBounds_toArray, List.set_cons_zero, List.set_cons_succ]
        refine wpAnyH_ready (rs := [4]) (by kernel_rfl) (by simp) ?_
        refine AllReadyH.cons rfl (fun K hK => ?_) AllReadyH.nil
        go_simp
        refine hK.out _ _ (trivial) (fun hHeld => ?_)
        clear hK K
        try simp only [Act.put, List.setIfInBounds_toArray, List.set_cons_zero, List.set_cons_succ]
        refine wpAnyH_ready (rs := [5]) (by kernel_rfl) (by simp) ?_
        refine AllReadyH.cons rfl (fun K hK => ?_) AllReadyH.nil
        go_simp
        refine hK.out _ _ (trivial) (fun hHeld => ?_)
        clear hK K
        try simp only [Act.put, List.setIfInBounds_toArray, List.set_cons_zero, List.set_cons_succ]
        refine wpAnyH_ready (rs := [6]) (by kernel_rfl) (by simp) ?_
        refine AllReadyH.cons rfl (fun K hK => ?_) AllReadyH.nil
        go_simp
        refine hK.out _ _ (trivial) (fun hHeld => ?_)
        clear hK K
        try simp only [Act.put, List.setIfInBounds_toArray, List.set_cons_zero, List.set_cons_succ]
        refine wpAnyH_ready (rs := [7]) (by kernel_rfl) (by simp) ?_
        refine AllReadyH.cons rfl (fun K hK => ?_) AllReadyH.nil
        go_simp
        refine hK.out _ _ (trivial) (fun hHeld => ?_)
        clear hK K
        try simp only [Act.put, List.setIfInBounds_toArray, List.set_cons_zero, List.set_cons_succ]
        refine wpAnyH_take (i := 8) (v := (.pointer (some ⟨w3.heap.size, 0, none⟩))) rfl (by kernel_rfl) (by kernel_rfl) (by kernel_rfl) (fun _ _ _ h => h) (Or.inl ⟨by rfl, fun w _ => by simp [go_sem, execOp]⟩) hHeld ?_
        simp only [Act.put, List.getElem_toArray, List.getElem_cons_succ, List.getElem_cons_zero, List.setIfInBounds_toArray, List.set_cons_zero, List.set_cons_succ]
        refine wpAnyH_ready (rs := [9]) (by kernel_rfl) (by simp) ?_
        refine AllReadyH.cons rfl (fun K hK => ?_) AllReadyH.nil
        refine step_store_part 2 _ _ _ 0 _ _ (Blk.kp (Kp.ka0 HK.out (by repeat (with_reducible first | exact Kp.refl _ _ | refine Kp.alloc _ ?_ | refine Kp.drew ?_ | refine Kp.drewN _ ?_))) (by first | omega | (simp; omega)) HX.out) rfl rfl rfl rfl rfl (by rfl) (by kernel_rfl) (by simp [go_sem, Value.cells, Value.oneCell']) (by simp [go_sem, Value.cells]) ?_; intro wS hBS hkb; simp [go_sem, Value.cells, setL] at hBS; have hka := Kp.ka HK.out hkb (by repeat (with_reducible first | exact Kp.refl _ _ | refine Kp.alloc _ ?_ | refine Kp.drew ?_ | refine Kp.drewN _ ?_)); have hlSo := HS.out.lt; (try (replace HR1 := Lib.hid (Blk.kp2 hka hkb (by first | omega | (simp; omega)) (by first | omega | (simp; omega)) HR1.out))); (try (replace HR2 := Lib.hid (Blk.kp2 hka hkb (by first | omega | (simp; omega)) (by first | omega | (simp; omega)) HR2.out))); (try (replace HR3 := Lib.hid (Blk.kp2 hka hkb (by first | omega | (simp; omega)) (by first | omega | (simp; omega)) HR3.out))); (try (replace HR4 := Lib.hid (Blk.kp2 hka hkb (by first | omega | (simp; omega)) (by first | omega | (simp; omega)) HR4.out))); (try (replace HF := Lib.hid (Blk.kp2 hka hkb (by first | omega | (simp; omega)) (by first | omega | (simp; omega)) HF.out))); (try (replace HU := Lib.hid (Blk.kp2 hka hkb (by first | omega | (simp; omega)) (by first | omega | (simp; omega)) HU.out))); (try (replace HV := Lib.hid (Blk.kp2 hka hkb (by first | omega | (simp; omega)) (by first | omega | (simp; omega)) HV.out))); (try (replace HO := Lib.hid (Own.kp3 hka hkb (by first | omega | (simp; omega)) (by first | omega | (simp; omega)) HO.out))); (try replace HS := Lib.hid (Src.kpg2 HS.out (by repeat (with_reducible first | exact Below.refl _ _ | refine Bel.alloc ?_ _ | refine Below.drew ?_ | refine Bel.drewN ?_ _)) hkb (by first | omega | (simp; omega)))); replace HX := Lib.hid hBS; replace HK := Lib.hid (Kp.own hkb (by first | omega | (simp; omega)) (Kp.trans HK.out hka)); have hszS := hkb.size_; have hsyS := hka.size_; (try simp only [World.size_alloc, World.size_drew, World.heap_drewN, World.size_setCell] at hszS hsyS); clear hBS hka hkb hlSo; have hlSS := HS.out.lt
        refine hK.out _ _ (trivial) (fun hHeld => ?_)
        clear hK K
        try simp only [Act.put, List.setIfInBounds_toArray, List.set_cons_zero, List.set_cons_succ]
        refine wpAnyH_done (by kernel_rfl) ?_ _
        have hX2 : ∃ z : Int, Hid (Blk wS w3.heap.size 25 #[.int .i64 z, .int .i64 eb]) := ⟨_, HX⟩
        clear HX
        obtain ⟨fa, HX⟩ := hX2
        go_upto_region 8 with (fail)
        obtain ⟨V2, rfl⟩ : ∃ U : World, U = wS := ⟨_, rfl⟩
        obtain ⟨fb, rfl⟩ : ∃ z : Int, z = eb := ⟨_, rfl⟩
        have hlX2 := HX.out.lt
        refine wp_region_held_drew (S := fun W => Blk W w2.heap.size 30 #[.int .i64 C.dg, .int .i64 C.tn, .string C.nm, .slice (some ⟨g, 0, none⟩) C.zs.length q, .int .i64 C.wd, .int .i64 C.lf, .int .i64 C.rt] ∧ Blk W (w2.heap.size + 1) 25 #[.int .i64 ud, .int .i64 ut] ∧ Blk W (w2.heap.size + 1 + 1) 25 #[.int .i64 vd, .int .i64 vt] ∧ Blk W w3.heap.size 25 #[.int .i64 fa, .int .i64 fb]) (by kernel_rfl) (⟨HF.out.drew, HU.out.drew, HV.out.drew, HX.out.drew⟩) (fun hHeld => ?_)
        replace HR1 := Lib.hid HR1.out.drew
        replace HR2 := Lib.hid HR2.out.drew
        replace HR3 := Lib.hid HR3.out.drew
        replace HR4 := Lib.hid HR4.out.drew
        replace HF := Lib.hid HF.out.drew
        replace HU := Lib.hid HU.out.drew
        replace HV := Lib.hid HV.out.drew
        replace HX := Lib.hid HX.out.drew
        replace HO := Lib.hid HO.out.drew
        replace HS := Lib.hid HS.out.drew
        replace HK := Lib.hid HK.out.drew
        have hsd : V2.drew.heap.size = V2.heap.size := rfl
        rw [← hsd] at hlX2
        clear hsd
        generalize V2.drew = v2 at HR1 HR2 HR3 HR4 HF HU HV HX HO HS HK hHeld hlX2 ⊢
        refine wpAnyH_take (i := 0) (v := .agg #[.int .i64 C.dg, .int .i64 C.tn, .string C.nm, .slice (some ⟨g, 0, none⟩) C.zs.length q, .int .i64 C.wd, .int .i64 C.lf, .int .i64 C.rt]) rfl (by kernel_rfl) (by kernel_rfl) (by kernel_rfl) (fun _ _ _ h => h) (yieldsIf_load_blk 30 _ (w2.heap.size) (fun _ h => h.1) Try.underlying30 (by kernel_rfl) (by rfl) rfl rfl) hHeld ?_
        simp only [Act.put, List.getElem_toArray, List.getElem_cons_succ, List.getElem_cons_zero, List.setIfInBounds_toArray, List.set_cons_zero, List.set_cons_succ]
        refine wpAnyH_take (i := 1) (v := .agg #[.int .i64 ud, .int .i64 ut]) rfl (by kernel_rfl) (by kernel_rfl) (by kernel_rfl) (fun _ _ _ h => h) (yieldsIf_load_blk 25 _ ((w2.heap.size + 1)) (fun _ h => h.2.1) Try.underlying25 (by kernel_rfl) (by rfl) rfl rfl) hHeld ?_
        simp only [Act.put, List.getElem_toArray, List.getElem_cons_succ, List.getElem_cons_zero, List.setIfInBounds_toArray, List.set_cons_zero, List.set_cons_succ]
        refine wpAnyH_take (i := 2) (v := .agg #[.int .i64 vd, .int .i64 vt]) rfl (by kernel_rfl) (by kernel_rfl) (by kernel_rfl) (fun _ _ _ h => h) (yieldsIf_load_blk 25 _ ((w2.heap.size + 1 + 1)) (fun _ h => h.2.2.1) Try.underlying25 (by kernel_rfl) (by rfl) rfl rfl) hHeld ?_
        simp only [Act.put, List.getElem_toArray, List.getElem_cons_succ, List.getElem_cons_zero, List.setIfInBounds_toArray, List.set_cons_zero, List.set_cons_succ]
        refine wpAnyH_take (i := 3) (v := .agg #[.int .i64 fa, .int .i64 fb]) rfl (by kernel_rfl) (by kernel_rfl) (by kernel_rfl) (fun _ _ _ h => h) (yieldsIf_load_blk 25 _ (w3.heap.size) (fun _ h => h.2.2.2) Try.underlying25 (by kernel_rfl) (by rfl) rfl rfl) hHeld ?_
        simp only [Act.put, List.getElem_toArray, List.getElem_cons_succ, List.getElem_cons_zero, List.setIfInBounds_toArray, List.set_cons_zero, List.set_cons_succ]
        refine wpAnyH_take (i := 4) (v := (.int .i64 x)) rfl (by kernel_rfl) (by kernel_rfl) (by kernel_rfl) (fun _ _ _ h => h) (Or.inl ⟨by rfl, fun w _ => by simp [go_sem, execOp]⟩) hHeld ?_
        simp only [Act.put, List.getElem_toArray, List.getElem_cons_succ, List.getElem_cons_zero, List.setIfInBounds_toArray, List.set_cons_zero, List.set_cons_succ]
        refine wpAnyH_ready (rs := [5]) (by kernel_rfl) (by simp) ?_
        refine AllReadyH.cons rfl (fun K hK => ?_) AllReadyH.nil
        refine step_store_part 30 _ _ _ 0 (.agg #[.int .i64 C.dg, .int .i64 C.tn, .string C.nm, .slice (some ⟨g, 0, none⟩) C.zs.length q, .int .i64 C.wd, .int .i64 C.lf, .int .i64 C.rt]) #[.int .i64 C.dg, .int .i64 C.tn, .string C.nm, .slice (some ⟨g, 0, none⟩) C.zs.length q, .int .i64 C.wd, .int .i64 C.lf, .int .i64 C.rt] (Blk.kp (Kp.ka0 HK.out (by repeat (with_reducible first | exact Kp.refl _ _ | refine Kp.alloc _ ?_ | refine Kp.drew ?_ | refine Kp.drewN _ ?_))) (by first | omega | (simp; omega)) HR1.out) rfl rfl rfl rfl rfl (by rfl) (by kernel_rfl) (by simp [Value.oneCell']) (by simp) ?_; intro wS hBS hkb; simp only [setL, List.setIfInBounds_toArray, List.set_cons_zero, List.set_cons_succ] at hBS; have hka := Kp.ka HK.out hkb (by repeat (with_reducible first | exact Kp.refl _ _ | refine Kp.alloc _ ?_ | refine Kp.drew ?_ | refine Kp.drewN _ ?_)); have hlSo := HS.out.lt; (try (replace HF := Lib.hid (Blk.kp2 hka hkb (by first | omega | (simp; omega)) (by first | omega | (simp; omega)) HF.out))); (try (replace HU := Lib.hid (Blk.kp2 hka hkb (by first | omega | (simp; omega)) (by first | omega | (simp; omega)) HU.out))); (try (replace HV := Lib.hid (Blk.kp2 hka hkb (by first | omega | (simp; omega)) (by first | omega | (simp; omega)) HV.out))); (try (replace HX := Lib.hid (Blk.kp2 hka hkb (by first | omega | (simp; omega)) (by first | omega | (simp; omega)) HX.out))); (try (replace HR2 := Lib.hid (Blk.kp2 hka hkb (by first | omega | (simp; omega)) (by first | omega | (simp; omega)) HR2.out))); (try (replace HR3 := Lib.hid (Blk.kp2 hka hkb (by first | omega | (simp; omega)) (by first | omega | (simp; omega)) HR3.out))); (try (replace HR4 := Lib.hid (Blk.kp2 hka hkb (by first | omega | (simp; omega)) (by first | omega | (simp; omega)) HR4.out))); (try (replace HO := Lib.hid (Own.kp3 hka hkb (by first | omega | (simp; omega)) (by first | omega | (simp; omega)) HO.out))); (try replace HS := Lib.hid (Src.kpg2 HS.out (by repeat (with_reducible first | exact Below.refl _ _ | refine Bel.alloc ?_ _ | refine Below.drew ?_ | refine Bel.drewN ?_ _)) hkb (by first | omega | (simp; omega)))); replace HR1 := Lib.hid hBS; replace HK := Lib.hid (Kp.own hkb (by first | omega | (simp; omega)) (Kp.trans HK.out hka)); have hszS := hkb.size_; have hsyS := hka.size_; (try simp only [World.size_alloc, World.size_drew, World.heap_drewN, World.size_setCell] at hszS hsyS); clear hBS hka hkb hlSo; have hlSS := HS.out.lt
        refine hK.out _ _ (⟨HF.out, HU.out, HV.out, HX.out⟩) (fun hHeld => ?_)
        clear hK K
        try simp only [Act.put, List.setIfInBounds_toArray, List.set_cons_zero, List.set_cons_succ]
        refine wpAnyH_ready (rs := [6]) (by kernel_rfl) (by simp) ?_
        refine AllReadyH.cons rfl (fun K hK => ?_) AllReadyH.nil
        refine step_store_part 25 _ _ _ 0 (.agg #[.int .i64 ud, .int .i64 ut]) #[.int .i64 ud, .int .i64 ut] (Blk.kp (Kp.ka0 HK.out (by repeat (with_reducible first | exact Kp.refl _ _ | refine Kp.alloc _ ?_ | refine Kp.drew ?_ | refine Kp.drewN _ ?_))) (by first | omega | (simp; omega)) HR2.out) rfl rfl rfl rfl rfl (by rfl) (by kernel_rfl) (by simp [Value.oneCell']) (by simp) ?_; intro wS hBS hkb; simp only [setL, List.setIfInBounds_toArray, List.set_cons_zero, List.set_cons_succ] at hBS; have hka := Kp.ka HK.out hkb (by repeat (with_reducible first | exact Kp.refl _ _ | refine Kp.alloc _ ?_ | refine Kp.drew ?_ | refine Kp.drewN _ ?_)); have hlSo := HS.out.lt; (try (replace HF := Lib.hid (Blk.kp2 hka hkb (by first | omega | (simp; omega)) (by first | omega | (simp; omega)) HF.out))); (try (replace HU := Lib.hid (Blk.kp2 hka hkb (by first | omega | (simp; omega)) (by first | omega | (simp; omega)) HU.out))); (try (replace HV := Lib.hid (Blk.kp2 hka hkb (by first | omega | (simp; omega)) (by first | omega | (simp; omega)) HV.out))); (try (replace HX := Lib.hid (Blk.kp2 hka hkb (by first | omega | (simp; omega)) (by first | omega | (simp; omega)) HX.out))); (try (replace HR1 := Lib.hid (Blk.kp2 hka hkb (by first | omega | (simp; omega)) (by first | omega | (simp; omega)) HR1.out))); (try (replace HR3 := Lib.hid (Blk.kp2 hka hkb (by first | omega | (simp; omega)) (by first | omega | (simp; omega)) HR3.out))); (try (replace HR4 := Lib.hid (Blk.kp2 hka hkb (by first | omega | (simp; omega)) (by first | omega | (simp; omega)) HR4.out))); (try (replace HO := Lib.hid (Own.kp3 hka hkb (by first | omega | (simp; omega)) (by first | omega | (simp; omega)) HO.out))); (try replace HS := Lib.hid (Src.kpg2 HS.out (by repeat (with_reducible first | exact Below.refl _ _ | refine Bel.alloc ?_ _ | refine Below.drew ?_ | refine Bel.drewN ?_ _)) hkb (by first | omega | (simp; omega)))); replace HR2 := Lib.hid hBS; replace HK := Lib.hid (Kp.own hkb (by first | omega | (simp; omega)) (Kp.trans HK.out hka)); have hszS := hkb.size_; have hsyS := hka.size_; (try simp only [World.size_alloc, World.size_drew, World.heap_drewN, World.size_setCell] at hszS hsyS); clear hBS hka hkb hlSo; have hlSS := HS.out.lt
        refine hK.out _ _ (⟨HF.out, HU.out, HV.out, HX.out⟩) (fun hHeld => ?_)
        clear hK K
        try simp only [Act.put, List.setIfInBounds_toArray, List.set_cons_zero, List.set_cons_succ]
        refine wpAnyH_ready (rs := [7]) (by kernel_rfl) (by simp) ?_
        refine AllReadyH.cons rfl (fun K hK => ?_) AllReadyH.nil
        refine step_store_part 25 _ _ _ 0 (.agg #[.int .i64 vd, .int .i64 vt]) #[.int .i64 vd, .int .i64 vt] (Blk.kp (Kp.ka0 HK.out (by repeat (with_reducible first | exact Kp.refl _ _ | refine Kp.alloc _ ?_ | refine Kp.drew ?_ | refine Kp.drewN _ ?_))) (by first | omega | (simp; omega)) HR3.out) rfl rfl rfl rfl rfl (by rfl) (by kernel_rfl) (by simp [Value.oneCell']) (by simp) ?_; intro wS hBS hkb; simp only [setL, List.setIfInBounds_toArray, List.set_cons_zero, List.set_cons_succ] at hBS; have hka := Kp.ka HK.out hkb (by repeat (with_reducible first | exact Kp.refl _ _ | refine Kp.alloc _ ?_ | refine Kp.drew ?_ | refine Kp.drewN _ ?_)); have hlSo := HS.out.lt; (try (replace HF := Lib.hid (Blk.kp2 hka hkb (by first | omega | (simp; omega)) (by first | omega | (simp; omega)) HF.out))); (try (replace HU := Lib.hid (Blk.kp2 hka hkb (by first | omega | (simp; omega)) (by first | omega | (simp; omega)) HU.out))); (try (replace HV := Lib.hid (Blk.kp2 hka hkb (by first | omega | (simp; omega)) (by first | omega | (simp; omega)) HV.out))); (try (replace HX := Lib.hid (Blk.kp2 hka hkb (by first | omega | (simp; omega)) (by first | omega | (simp; omega)) HX.out))); (try (replace HR1 := Lib.hid (Blk.kp2 hka hkb (by first | omega | (simp; omega)) (by first | omega | (simp; omega)) HR1.out))); (try (replace HR2 := Lib.hid (Blk.kp2 hka hkb (by first | omega | (simp; omega)) (by first | omega | (simp; omega)) HR2.out))); (try (replace HR4 := Lib.hid (Blk.kp2 hka hkb (by first | omega | (simp; omega)) (by first | omega | (simp; omega)) HR4.out))); (try (replace HO := Lib.hid (Own.kp3 hka hkb (by first | omega | (simp; omega)) (by first | omega | (simp; omega)) HO.out))); (try replace HS := Lib.hid (Src.kpg2 HS.out (by repeat (with_reducible first | exact Below.refl _ _ | refine Bel.alloc ?_ _ | refine Below.drew ?_ | refine Bel.drewN ?_ _)) hkb (by first | omega | (simp; omega)))); replace HR3 := Lib.hid hBS; replace HK := Lib.hid (Kp.own hkb (by first | omega | (simp; omega)) (Kp.trans HK.out hka)); have hszS := hkb.size_; have hsyS := hka.size_; (try simp only [World.size_alloc, World.size_drew, World.heap_drewN, World.size_setCell] at hszS hsyS); clear hBS hka hkb hlSo; have hlSS := HS.out.lt
        refine hK.out _ _ (⟨HF.out, HU.out, HV.out, HX.out⟩) (fun hHeld => ?_)
        clear hK K
        try simp only [Act.put, List.setIfInBounds_toArray, List.set_cons_zero, List.set_cons_succ]
        refine wpAnyH_ready (rs := [8]) (by kernel_rfl) (by simp) ?_
        refine AllReadyH.cons rfl (fun K hK => ?_) AllReadyH.nil
        refine step_store_part 25 _ _ _ 0 (.agg #[.int .i64 fa, .int .i64 fb]) #[.int .i64 fa, .int .i64 fb] (Blk.kp (Kp.ka0 HK.out (by repeat (with_reducible first | exact Kp.refl _ _ | refine Kp.alloc _ ?_ | refine Kp.drew ?_ | refine Kp.drewN _ ?_))) (by first | omega | (simp; omega)) HR4.out) rfl rfl rfl rfl rfl (by rfl) (by kernel_rfl) (by simp [Value.oneCell']) (by simp) ?_; intro wS hBS hkb; simp only [setL, List.setIfInBounds_toArray, List.set_cons_zero, List.set_cons_succ] at hBS; have hka := Kp.ka HK.out hkb (by repeat (with_reducible first | exact Kp.refl _ _ | refine Kp.alloc _ ?_ | refine Kp.drew ?_ | refine Kp.drewN _ ?_)); have hlSo := HS.out.lt; (try (replace HF := Lib.hid (Blk.kp2 hka hkb (by first | omega | (simp; omega)) (by first | omega | (simp; omega)) HF.out))); (try (replace HU := Lib.hid (Blk.kp2 hka hkb (by first | omega | (simp; omega)) (by first | omega | (simp; omega)) HU.out))); (try (replace HV := Lib.hid (Blk.kp2 hka hkb (by first | omega | (simp; omega)) (by first | omega | (simp; omega)) HV.out))); (try (replace HX := Lib.hid (Blk.kp2 hka hkb (by first | omega | (simp; omega)) (by first | omega | (simp; omega)) HX.out))); (try (replace HR1 := Lib.hid (Blk.kp2 hka hkb (by first | omega | (simp; omega)) (by first | omega | (simp; omega)) HR1.out))); (try (replace HR2 := Lib.hid (Blk.kp2 hka hkb (by first | omega | (simp; omega)) (by first | omega | (simp; omega)) HR2.out))); (try (replace HR3 := Lib.hid (Blk.kp2 hka hkb (by first | omega | (simp; omega)) (by first | omega | (simp; omega)) HR3.out))); (try (replace HO := Lib.hid (Own.kp3 hka hkb (by first | omega | (simp; omega)) (by first | omega | (simp; omega)) HO.out))); (try replace HS := Lib.hid (Src.kpg2 HS.out (by repeat (with_reducible first | exact Below.refl _ _ | refine Bel.alloc ?_ _ | refine Below.drew ?_ | refine Bel.drewN ?_ _)) hkb (by first | omega | (simp; omega)))); replace HR4 := Lib.hid hBS; replace HK := Lib.hid (Kp.own hkb (by first | omega | (simp; omega)) (Kp.trans HK.out hka)); have hszS := hkb.size_; have hsyS := hka.size_; (try simp only [World.size_alloc, World.size_drew, World.heap_drewN, World.size_setCell] at hszS hsyS); clear hBS hka hkb hlSo; have hlSS := HS.out.lt
        refine hK.out _ _ (⟨HF.out, HU.out, HV.out, HX.out⟩) (fun hHeld => ?_)
        clear hK K
        try simp only [Act.put, List.setIfInBounds_toArray, List.set_cons_zero, List.set_cons_succ]
        refine wpAnyH_take (i := 9) (v := (.int .i64 x)) rfl (by kernel_rfl) (by kernel_rfl) (by kernel_rfl) (fun _ _ _ h => h) (Or.inl ⟨by rfl, fun w _ => by simp [go_sem, execOp]⟩) hHeld ?_
        simp only [Act.put, List.getElem_toArray, List.getElem_cons_succ, List.getElem_cons_zero, List.setIfInBounds_toArray, List.set_cons_zero, List.set_cons_succ]
        refine wpAnyH_done (by kernel_rfl) ?_ _
        go_wp2
        all_goals exact bodyPost_ret (results_5 rfl (resF_cell HR1.out Try.underlying30 (by kernel_rfl) rfl) (resF_cell HR2.out Try.underlying25 (by kernel_rfl) rfl) (resF_cell HR3.out Try.underlying25 (by kernel_rfl) rfl) (resF_cell HR4.out Try.underlying25 (by kernel_rfl) rfl) (resF_tmp _ rfl)) rfl ⟨C, g, q, ud, ut, vd, vt, fa, fb, x, rfl, by omega, by omega, Own.ge_mono HO.out (by omega), Kp.toBel HK.out (by omega)⟩
      · go_simp
        go_at_call 112; refine (l01Next_c X A zs _ (by omega) _ (by repeat (with_reducible first | exact HS.out | refine Src.alloc _ ?_ | refine Src.drew ?_ | refine Src.drewN _ ?_ | (refine Src.far _ ?_ ?_; (have := HS.out.lt; first | omega | (simp; omega))) | (refine Src.setRow _ ?_ ?_; (have := HS.out.lt; first | omega | (simp; omega)))))).mono ?_; rintro e w7 ⟨x7, rfl, hx7, hy7, hd7⟩; (try rw [Int.max_eq_left (by omega)] at hy7); have hkb := hd7.kp; have hka := Kp.ka HK.out hkb (by repeat (with_reducible first | exact Kp.refl _ _ | refine Kp.alloc _ ?_ | refine Kp.drew ?_ | refine Kp.drewN _ ?_)); have hlS7 := HS.out.lt; (try (replace HR1 := Lib.hid (Blk.kp2 hka hkb (by first | omega | (simp; omega)) (by first | omega | (simp; omega)) HR1.out))); (try (replace HR2 := Lib.hid (Blk.kp2 hka hkb (by first | omega | (simp; omega)) (by first | omega | (simp; omega)) HR2.out))); (try (replace HR3 := Lib.hid (Blk.kp2 hka hkb (by first | omega | (simp; omega)) (by first | omega | (simp; omega)) HR3.out))); (try (replace HR4 := Lib.hid (Blk.kp2 hka hkb (by first | omega | (simp; omega)) (by first | omega | (simp; omega)) HR4.out))); (try (replace HF := Lib.hid (Blk.kp2 hka hkb (by first | omega | (simp; omega)) (by first | omega | (simp; omega)) HF.out))); (try (replace HU := Lib.hid (Blk.kp2 hka hkb (by first | omega | (simp; omega)) (by first | omega | (simp; omega)) HU.out))); (try (replace HV := Lib.hid (Blk.kp2 hka hkb (by first | omega | (simp; omega)) (by first | omega | (simp; omega)) HV.out))); (try (replace HX := Lib.hid (Blk.kp2 hka hkb (by first | omega | (simp; omega)) (by first | omega | (simp; omega)) HX.out))); (try (replace HO := Lib.hid (Own.kp3 hka hkb (by first | omega | (simp; omega)) (by first | omega | (simp; omega)) HO.out))); replace HK := Lib.hid (Kp.trans HK.out (Kp.trans hka hkb)); have hsz7 := hkb.size_; have hsy7 := hka.size_; (try simp only [World.size_alloc, World.size_drew, World.heap_drewN, World.size_setCell] at hsz7 hsy7); replace HS := Lib.hid hd7.src; clear hka hkb hd7 hlS7; have hlS7 := HS.out.lt
        refine hK.out _ _ (trivial) (fun hHeld => ?_)
        clear hK K
        try simp only [Act.put, List.setIfInBounds_toArray, List.set_cons_zero, List.set_cons_succ]
        have c0 : w7.cell? ⟨w3.heap.size, 0, none⟩ = some (.int .i64 ea) := by rw [HX.out.cell]; rfl
        refine wpAnyH_ready (rs := [1]) (by kernel_rfl) (by simp) ?_
        refine AllReadyH.cons rfl (fun K hK => ?_) AllReadyH.nil
        go_simp
        refine hK.out _ _ (trivial) (fun hHeld => ?_)
        clear hK K
        try simp only [Act.put, List.setIfInBounds_toArray, List.set_cons_zero, List.set_cons_succ]
        clear c0
        refine wpAnyH_ready (rs := [4]) (by kernel_rfl) (by simp) ?_
        refine AllReadyH.cons rfl (fun K hK => ?_) AllReadyH.nil
        go_simp
        refine hK.out _ _ (trivial) (fun hHeld => ?_)
        clear hK K
        try simp only [Act.put, List.setIfInBounds_toArray, List.set_cons_zero, List.set_cons_succ]
        refine wpAnyH_ready (rs := [5]) (by kernel_rfl) (by simp) ?_
        refine AllReadyH.cons rfl (fun K hK => ?_) AllReadyH.nil
        go_simp
        refine hK.out _ _ (trivial) (fun hHeld => ?_)
        clear hK K
        try simp only [Act.put, List.setIfInBounds_toArray, List.set_cons_zero, List.set_cons_succ]
        refine wpAnyH_ready (rs := [6]) (by kernel_rfl) (by simp) ?_
        refine AllReadyH.cons rfl (fun K hK => ?_) AllReadyH.nil
        go_simp
        refine hK.out _ _ (trivial) (fun hHeld => ?_)
        clear hK K
        try simp only [Act.put, List.setIfInBounds_toArray, List.set_cons_zero, List.set_cons_succ]
        refine wpAnyH_ready (rs := [7]) (by kernel_rfl) (by simp) ?_
        refine AllReadyH.cons rfl (fun K hK => ?_) AllReadyH.nil
        go_simp
        refine hK.out _ _ (trivial) (fun hHeld => ?_)
        clear hK K
        try simp only [Act.put, List.setIfInBounds_toArray, List.set_cons_zero, List.set_cons_succ]
        refine wpAnyH_take (i := 8) (v := (.pointer (some ⟨w3.heap.size, 0, none⟩))) rfl (by kernel_rfl) (by kernel_rfl) (by kernel_rfl) (fun _ _ _ h => h) (Or.inl ⟨by rfl, fun w _ => by simp [go_sem, execOp]⟩) hHeld ?_
        simp only [Act.put, List.getElem_toArray, List.getElem_cons_succ, List.getElem_cons_zero, List.setIfInBounds_toArray, List.set_cons_zero, List.set_cons_succ]
        refine wpAnyH_ready (rs := [9]) (by kernel_rfl) (by simp) ?_
        refine AllReadyH.cons rfl (fun K hK => ?_) AllReadyH.nil
        refine step_store_part 2 _ _ _ 0 _ _ (Blk.kp (Kp.ka0 HK.out (by repeat (with_reducible first | exact Kp.refl _ _ | refine Kp.alloc _ ?_ | refine Kp.drew ?_ | refine Kp.drewN _ ?_))) (by first | omega | (simp; omega)) HX.out) rfl rfl rfl rfl rfl (by rfl) (by kernel_rfl) (by simp [go_sem, Value.cells, Value.oneCell']) (by simp [go_sem, Value.cells]) ?_; intro wS hBS hkb; simp [go_sem, Value.cells, setL] at hBS; have hka := Kp.ka HK.out hkb (by repeat (with_reducible first | exact Kp.refl _ _ | refine Kp.alloc _ ?_ | refine Kp.drew ?_ | refine Kp.drewN _ ?_)); have hlSo := HS.out.lt; (try (replace HR1 := Lib.hid (Blk.kp2 hka hkb (by first | omega | (simp; omega)) (by first | omega | (simp; omega)) HR1.out))); (try (replace HR2 := Lib.hid (Blk.kp2 hka hkb (by first | omega | (simp; omega)) (by first | omega | (simp; omega)) HR2.out))); (try (replace HR3 := Lib.hid (Blk.kp2 hka hkb (by first | omega | (simp; omega)) (by first | omega | (simp; omega)) HR3.out))); (try (replace HR4 := Lib.hid (Blk.kp2 hka hkb (by first | omega | (simp; omega)) (by first | omega | (simp; omega)) HR4.out))); (try (replace HF := Lib.hid (Blk.kp2 hka hkb (by first | omega | (simp; omega)) (by first | omega | (simp; omega)) HF.out))); (try (replace HU := Lib.hid (Blk.kp2 hka hkb (by first | omega | (simp; omega)) (by first | omega | (simp; omega)) HU.out))); (try (replace HV := Lib.hid (Blk.kp2 hka hkb (by first | omega | (simp; omega)) (by first | omega | (simp; omega)) HV.out))); (try (replace HO := Lib.hid (Own.kp3 hka hkb (by first | omega | (simp; omega)) (by first | omega | (simp; omega)) HO.out))); (try replace HS := Lib.hid (Src.kpg2 HS.out (by repeat (with_reducible first | exact Below.refl _ _ | refine Bel.alloc ?_ _ | refine Below.drew ?_ | refine Bel.drewN ?_ _)) hkb (by first | omega | (simp; omega)))); replace HX := Lib.hid hBS; replace HK := Lib.hid (Kp.own hkb (by first | omega | (simp; omega)) (Kp.trans HK.out hka)); have hszS := hkb.size_; have hsyS := hka.size_; (try simp only [World.size_alloc, World.size_drew, World.heap_drewN, World.size_setCell] at hszS hsyS); clear hBS hka hkb hlSo; have hlSS := HS.out.lt
        refine hK.out _ _ (trivial) (fun hHeld => ?_)
        clear hK K
        try simp only [Act.put, List.setIfInBounds_toArray, List.set_cons_zero, List.set_cons_succ]
        refine wpAnyH_done (by kernel_rfl) ?_ _
        have hX2 : ∃ z : Int, Hid (Blk wS w3.heap.size 25 #[.int .i64 z, .int .i64 eb]) := ⟨_, HX⟩
        clear HX
        obtain ⟨fa, HX⟩ := hX2
        go_upto_region 8 with (fail)
        obtain ⟨V2, rfl⟩ : ∃ U : World, U = wS := ⟨_, rfl⟩
        obtain ⟨fb, rfl⟩ : ∃ z : Int, z = eb := ⟨_, rfl⟩
        have hlX2 := HX.out.lt
        refine wp_region_held_drew (S := fun W => Blk W w2.heap.size 30 #[.int .i64 C.dg, .int .i64 C.tn, .string C.nm, .slice (some ⟨g, 0, none⟩) C.zs.length q, .int .i64 C.wd, .int .i64 C.lf, .int .i64 C.rt] ∧ Blk W (w2.heap.size + 1) 25 #[.int .i64 ud, .int .i64 ut] ∧ Blk W (w2.heap.size + 1 + 1) 25 #[.int .i64 vd, .int .i64 vt] ∧ Blk W w3.heap.size 25 #[.int .i64 fa, .int .i64 fb]) (by kernel_rfl) (⟨HF.out.drew, HU.out.drew, HV.out.drew, HX.out.drew⟩) (fun hHeld => ?_)
        replace HR1 := Lib.hid HR1.out.drew
        replace HR2 := Lib.hid HR2.out.drew
        replace HR3 := Lib.hid HR3.out.drew
        replace HR4 := Lib.hid HR4.out.drew
        replace HF := Lib.hid HF.out.drew
        replace HU := Lib.hid HU.out.drew
        replace HV := Lib.hid HV.out.drew
        replace HX := Lib.hid HX.out.drew
        replace HO := Lib.hid HO.out.drew
        replace HS := Lib.hid HS.out.drew
        replace HK := Lib.hid HK.out.drew
        have hsd : V2.drew.heap.size = V2.heap.size := rfl
        rw [← hsd] at hlX2
        clear hsd
        generalize V2.drew = v2 at HR1 HR2 HR3 HR4 HF HU HV HX HO HS HK hHeld hlX2 ⊢
        refine wpAnyH_take (i := 0) (v := .agg #[.int .i64 C.dg, .int .i64 C.tn, .string C.nm, .slice (some ⟨g, 0, none⟩) C.zs.length q, .int .i64 C.wd, .int .i64 C.lf, .int .i64 C.rt]) rfl (by kernel_rfl) (by kernel_rfl) (by kernel_rfl) (fun _ _ _ h => h) (yieldsIf_load_blk 30 _ (w2.heap.size) (fun _ h => h.1) Try.underlying30 (by kernel_rfl) (by rfl) rfl rfl) hHeld ?_
        simp only [Act.put, List.getElem_toArray, List.getElem_cons_succ, List.getElem_cons_zero, List.setIfInBounds_toArray, List.set_cons_zero, List.set_cons_succ]
        refine wpAnyH_take (i := 1) (v := .agg #[.int .i64 ud, .int .i64 ut]) rfl (by kernel_rfl) (by kernel_rfl) (by kernel_rfl) (fun _ _ _ h => h) (yieldsIf_load_blk 25 _ ((w2.heap.size + 1)) (fun _ h => h.2.1) Try.underlying25 (by kernel_rfl) (by rfl) rfl rfl) hHeld ?_
        simp only [Act.put, List.getElem_toArray, List.getElem_cons_succ, List.getElem_cons_zero, List.setIfInBounds_toArray, List.set_cons_zero, List.set_cons_succ]
        refine wpAnyH_take (i := 2) (v := .agg #[.int .i64 vd, .int .i64 vt]) rfl (by kernel_rfl) (by kernel_rfl) (by kernel_rfl) (fun _ _ _ h => h) (yieldsIf_load_blk 25 _ ((w2.heap.size + 1 + 1)) (fun _ h => h.2.2.1) Try.underlying25 (by kernel_rfl) (by rfl) rfl rfl) hHeld ?_
        simp only [Act.put, List.getElem_toArray, List.getElem_cons_succ, List.getElem_cons_zero, List.setIfInBounds_toArray, List.set_cons_zero, List.set_cons_succ]
        refine wpAnyH_take (i := 3) (v := .agg #[.int .i64 fa, .int .i64 fb]) rfl (by kernel_rfl) (by kernel_rfl) (by kernel_rfl) (fun _ _ _ h => h) (yieldsIf_load_blk 25 _ (w3.heap.size) (fun _ h => h.2.2.2) Try.underlying25 (by kernel_rfl) (by rfl) rfl rfl) hHeld ?_
        simp only [Act.put, List.getElem_toArray, List.getElem_cons_succ, List.getElem_cons_zero, List.setIfInBounds_toArray, List.set_cons_zero, List.set_cons_succ]
        refine wpAnyH_take (i := 4) (v := (.int .i64 x)) rfl (by kernel_rfl) (by kernel_rfl) (by kernel_rfl) (fun _ _ _ h => h) (Or.inl ⟨by rfl, fun w _ => by simp [go_sem, execOp]⟩) hHeld ?_
        simp only [Act.put, List.getElem_toArray, List.getElem_cons_succ, List.getElem_cons_zero, List.setIfInBounds_toArray, List.set_cons_zero, List.set_cons_succ]
        refine wpAnyH_ready (rs := [5]) (by kernel_rfl) (by simp) ?_
        refine AllReadyH.cons rfl (fun K hK => ?_) AllReadyH.nil
        refine step_store_part 30 _ _ _ 0 (.agg #[.int .i64 C.dg, .int .i64 C.tn, .string C.nm, .slice (some ⟨g, 0, none⟩) C.zs.length q, .int .i64 C.wd, .int .i64 C.lf, .int .i64 C.rt]) #[.int .i64 C.dg, .int .i64 C.tn, .string C.nm, .slice (some ⟨g, 0, none⟩) C.zs.length q, .int .i64 C.wd, .int .i64 C.lf, .int .i64 C.rt] (Blk.kp (Kp.ka0 HK.out (by repeat (with_reducible first | exact Kp.refl _ _ | refine Kp.alloc _ ?_ | refine Kp.drew ?_ | refine Kp.drewN _ ?_))) (by first | omega | (simp; omega)) HR1.out) rfl rfl rfl rfl rfl (by rfl) (by kernel_rfl) (by simp [Value.oneCell']) (by simp) ?_; intro wS hBS hkb; simp only [setL, List.setIfInBounds_toArray, List.set_cons_zero, List.set_cons_succ] at hBS; have hka := Kp.ka HK.out hkb (by repeat (with_reducible first | exact Kp.refl _ _ | refine Kp.alloc _ ?_ | refine Kp.drew ?_ | refine Kp.drewN _ ?_)); have hlSo := HS.out.lt; (try (replace HF := Lib.hid (Blk.kp2 hka hkb (by first | omega | (simp; omega)) (by first | omega | (simp; omega)) HF.out))); (try (replace HU := Lib.hid (Blk.kp2 hka hkb (by first | omega | (simp; omega)) (by first | omega | (simp; omega)) HU.out))); (try (replace HV := Lib.hid (Blk.kp2 hka hkb (by first | omega | (simp; omega)) (by first | omega | (simp; omega)) HV.out))); (try (replace HX := Lib.hid (Blk.kp2 hka hkb (by first | omega | (simp; omega)) (by first | omega | (simp; omega)) HX.out))); (try (replace HR2 := Lib.hid (Blk.kp2 hka hkb (by first | omega | (simp; omega)) (by first | omega | (simp; omega)) HR2.out))); (try (replace HR3 := Lib.hid (Blk.kp2 hka hkb (by first | omega | (simp; omega)) (by first | omega | (simp; omega)) HR3.out))); (try (replace HR4 := Lib.hid (Blk.kp2 hka hkb (by first | omega | (simp; omega)) (by first | omega | (simp; omega)) HR4.out))); (try (replace HO := Lib.hid (Own.kp3 hka hkb (by first | omega | (simp; omega)) (by first | omega | (simp; omega)) HO.out))); (try replace HS := Lib.hid (Src.kpg2 HS.out (by repeat (with_reducible first | exact Below.refl _ _ | refine Bel.alloc ?_ _ | refine Below.drew ?_ | refine Bel.drewN ?_ _)) hkb (by first | omega | (simp; omega)))); replace HR1 := Lib.hid hBS; replace HK := Lib.hid (Kp.own hkb (by first | omega | (simp; omega)) (Kp.trans HK.out hka)); have hszS := hkb.size_; have hsyS := hka.size_; (try simp only [World.size_alloc, World.size_drew, World.heap_drewN, World.size_setCell] at hszS hsyS); clear hBS hka hkb hlSo; have hlSS := HS.out.lt
        refine hK.out _ _ (⟨HF.out, HU.out, HV.out, HX.out⟩) (fun hHeld => ?_)
        clear hK K
        try simp only [Act.put, List.setIfInBounds_toArray, List.set_cons_zero, List.set_cons_succ]
        refine wpAnyH_ready (rs := [6]) (by kernel_rfl) (by simp) ?_
        refine AllReadyH.cons rfl (fun K hK => ?_) AllReadyH.nil
        refine step_store_part 25 _ _ _ 0 (.agg #[.int .i64 ud, .int .i64 ut]) #[.int .i64 ud, .int .i64 ut] (Blk.kp (Kp.ka0 HK.out (by repeat (with_reducible first | exact Kp.refl _ _ | refine Kp.alloc _ ?_ | refine Kp.drew ?_ | refine Kp.drewN _ ?_))) (by first | omega | (simp; omega)) HR2.out) rfl rfl rfl rfl rfl (by rfl) (by kernel_rfl) (by simp [Value.oneCell']) (by simp) ?_; intro wS hBS hkb; simp only [setL, List.setIfInBounds_toArray, List.set_cons_zero, List.set_cons_succ] at hBS; have hka := Kp.ka HK.out hkb (by repeat (with_reducible first | exact Kp.refl _ _ | refine Kp.alloc _ ?_ | refine Kp.drew ?_ | refine Kp.drewN _ ?_)); have hlSo := HS.out.lt; (try (replace HF := Lib.hid (Blk.kp2 hka hkb (by first | omega | (simp; omega)) (by first | omega | (simp; omega)) HF.out))); (try (replace HU := Lib.hid (Blk.kp2 hka hkb (by first | omega | (simp; omega)) (by first | omega | (simp; omega)) HU.out))); (try (replace HV := Lib.hid (Blk.kp2 hka hkb (by first | omega | (simp; omega)) (by first | omega | (simp; omega)) HV.out))); (try (replace HX := Lib.hid (Blk.kp2 hka hkb (by first | omega | (simp; omega)) (by first | omega | (simp; omega)) HX.out))); (try (replace HR1 := Lib.hid (Blk.kp2 hka hkb (by first | omega | (simp; omega)) (by first | omega | (simp; omega)) HR1.out))); (try (replace HR3 := Lib.hid (Blk.kp2 hka hkb (by first | omega | (simp; omega)) (by first | omega | (simp; omega)) HR3.out))); (try (replace HR4 := Lib.hid (Blk.kp2 hka hkb (by first | omega | (simp; omega)) (by first | omega | (simp; omega)) HR4.out))); (try (replace HO := Lib.hid (Own.kp3 hka hkb (by first | omega | (simp; omega)) (by first | omega | (simp; omega)) HO.out))); (try replace HS := Lib.hid (Src.kpg2 HS.out (by repeat (with_reducible first | exact Below.refl _ _ | refine Bel.alloc ?_ _ | refine Below.drew ?_ | refine Bel.drewN ?_ _)) hkb (by first | omega | (simp; omega)))); replace HR2 := Lib.hid hBS; replace HK := Lib.hid (Kp.own hkb (by first | omega | (simp; omega)) (Kp.trans HK.out hka)); have hszS := hkb.size_; have hsyS := hka.size_; (try simp only [World.size_alloc, World.size_drew, World.heap_drewN, World.size_setCell] at hszS hsyS); clear hBS hka hkb hlSo; have hlSS := HS.out.lt
        refine hK.out _ _ (⟨HF.out, HU.out, HV.out, HX.out⟩) (fun hHeld => ?_)
        clear hK K
        try simp only [Act.put, List.setIfInBounds_toArray, List.set_cons_zero, List.set_cons_succ]
        refine wpAnyH_ready (rs := [7]) (by kernel_rfl) (by simp) ?_
        refine AllReadyH.cons rfl (fun K hK => ?_) AllReadyH.nil
        refine step_store_part 25 _ _ _ 0 (.agg #[.int .i64 vd, .int .i64 vt]) #[.int .i64 vd, .int .i64 vt] (Blk.kp (Kp.ka0 HK.out (by repeat (with_reducible first | exact Kp.refl _ _ | refine Kp.alloc _ ?_ | refine Kp.drew ?_ | refine Kp.drewN _ ?_))) (by first | omega | (simp; omega)) HR3.out) rfl rfl rfl rfl rfl (by rfl) (by kernel_rfl) (by simp [Value.oneCell']) (by simp) ?_; intro wS hBS hkb; simp only [setL, List.setIfInBounds_toArray, List.set_cons_zero, List.set_cons_succ] at hBS; have hka := Kp.ka HK.out hkb (by repeat (with_reducible first | exact Kp.refl _ _ | refine Kp.alloc _ ?_ | refine Kp.drew ?_ | refine Kp.drewN _ ?_)); have hlSo := HS.out.lt; (try (replace HF := Lib.hid (Blk.kp2 hka hkb (by first | omega | (simp; omega)) (by first | omega | (simp; omega)) HF.out))); (try (replace HU := Lib.hid (Blk.kp2 hka hkb (by first | omega | (simp; omega)) (by first | omega | (simp; omega)) HU.out))); (try (replace HV := Lib.hid (Blk.kp2 hka hkb (by first | omega | (simp; omega)) (by first | omega | (simp; omega)) HV.out))); (try (replace HX := Lib.hid (Blk.kp2 hka hkb (by first | omega | (simp; omega)) (by first | omega | (simp; omega)) HX.out))); (try (replace HR1 := Lib.hid (Blk.kp2 hka hkb (by first | omega | (simp; omega)) (by first | omega | (simp; omega)) HR1.out))); (try (replace HR2 := Lib.hid (Blk.kp2 hka hkb (by first | omega | (simp; omega)) (by first | omega | (simp; omega)) HR2.out))); (try (replace HR4 := Lib.hid (Blk.kp2 hka hkb (by first | omega | (simp; omega)) (by first | omega | (simp; omega)) HR4.out))); (try (replace HO := Lib.hid (Own.kp3 hka hkb (by first | omega | (simp; omega)) (by first | omega | (simp; omega)) HO.out))); (try replace HS := Lib.hid (Src.kpg2 HS.out (by repeat (with_reducible first | exact Below.refl _ _ | refine Bel.alloc ?_ _ | refine Below.drew ?_ | refine Bel.drewN ?_ _)) hkb (by first | omega | (simp; omega)))); replace HR3 := Lib.hid hBS; replace HK := Lib.hid (Kp.own hkb (by first | omega | (simp; omega)) (Kp.trans HK.out hka)); have hszS := hkb.size_; have hsyS := hka.size_; (try simp only [World.size_alloc, World.size_drew, World.heap_drewN, World.size_setCell] at hszS hsyS); clear hBS hka hkb hlSo; have hlSS := HS.out.lt
        refine hK.out _ _ (⟨HF.out, HU.out, HV.out, HX.out⟩) (fun hHeld => ?_)
        clear hK K
        try simp only [Act.put, List.setIfInBounds_toArray, List.set_cons_zero, List.set_cons_succ]
        refine wpAnyH_ready (rs := [8]) (by kernel_rfl) (by simp) ?_
        refine AllReadyH.cons rfl (fun K hK => ?_) AllReadyH.nil
        refine step_store_part 25 _ _ _ 0 (.agg #[.int .i64 fa, .int .i64 fb]) #[.int .i64 fa, .int .i64 fb] (Blk.kp (Kp.ka0 HK.out (by repeat (with_reducible first | exact Kp.refl _ _ | refine Kp.alloc _ ?_ | refine Kp.drew ?_ | refine Kp.drewN _ ?_))) (by first | omega | (simp; omega)) HR4.out) rfl rfl rfl rfl rfl (by rfl) (by kernel_rfl) (by simp [Value.oneCell']) (by simp) ?_; intro wS hBS hkb; simp only [setL, List.setIfInBounds_toArray, List.set_cons_zero, List.set_cons_succ] at hBS; have hka := Kp.ka HK.out hkb (by repeat (with_reducible first | exact Kp.refl _ _ | refine Kp.alloc _ ?_ | refine Kp.drew ?_ | refine Kp.drewN _ ?_)); have hlSo := HS.out.lt; (try (replace HF := Lib.hid (Blk.kp2 hka hkb (by first | omega | (simp; omega)) (by first | omega | (simp; omega)) HF.out))); (try (replace HU := Lib.hid (Blk.kp2 hka hkb (by first | omega | (simp; omega)) (by first | omega | (simp; omega)) HU.out))); (try (replace HV := Lib.hid (Blk.kp2 hka hkb (by first | omega | (simp; omega)) (by first | omega | (simp; omega)) HV.out))); (try (replace HX := Lib.hid (Blk.kp2 hka hkb (by first | omega | (simp; omega)) (by first | omega | (simp; omega)) HX.out))); (try (replace HR1 := Lib.hid (Blk.kp2 hka hkb (by first | omega | (simp; omega)) (by first | omega | (simp; omega)) HR1.out))); (try (replace HR2 := Lib.hid (Blk.kp2 hka hkb (by first | omega | (simp; omega)) (by first | omega | (simp; omega)) HR2.out))); (try (replace HR3 := Lib.hid (Blk.kp2 hka hkb (by first | omega | (simp; omega)) (by first | omega | (simp; omega)) HR3.out))); (try (replace HO := Lib.hid (Own.kp3 hka hkb (by first | omega | (simp; omega)) (by first | omega | (simp; omega)) HO.out))); (try replace HS := Lib.hid (Src.kpg2 HS.out (by repeat (with_reducible first | exact Below.refl _ _ | refine Bel.alloc ?_ _ | refine Below.drew ?_ | refine Bel.drewN ?_ _)) hkb (by first | omega | (simp; omega)))); replace HR4 := Lib.hid hBS; replace HK := Lib.hid (Kp.own hkb (by first | omega | (simp; omega)) (Kp.trans HK.out hka)); have hszS := hkb.size_; have hsyS := hka.size_; (try simp only [World.size_alloc, World.size_drew, World.heap_drewN, World.size_setCell] at hszS hsyS); clear hBS hka hkb hlSo; have hlSS := HS.out.lt
        refine hK.out _ _ (⟨HF.out, HU.out, HV.out, HX.out⟩) (fun hHeld => ?_)
        clear hK K
        try simp only [Act.put, List.setIfInBounds_toArray, List.set_cons_zero, List.set_cons_succ]
        refine wpAnyH_take (i := 9) (v := (.int .i64 x)) rfl (by kernel_rfl) (by kernel_rfl) (by kernel_rfl) (fun _ _ _ h => h) (Or.inl ⟨by rfl, fun w _ => by simp [go_sem, execOp]⟩) hHeld ?_
        simp only [Act.put, List.getElem_toArray, List.getElem_cons_succ, List.getElem_cons_zero, List.setIfInBounds_toArray, List.set_cons_zero, List.set_cons_succ]
        refine wpAnyH_done (by kernel_rfl) ?_ _
        go_wp2
        all_goals exact bodyPost_ret (results_5 rfl (resF_cell HR1.out Try.underlying30 (by kernel_rfl) rfl) (resF_cell HR2.out Try.underlying25 (by kernel_rfl) rfl) (resF_cell HR3.out Try.underlying25 (by kernel_rfl) rfl) (resF_cell HR4.out Try.underlying25 (by kernel_rfl) rfl) (resF_tmp _ rfl)) rfl ⟨C, g, q, ud, ut, vd, vt, fa, fb, x, rfl, by omega, by omega, Own.ge_mono HO.out (by omega), Kp.toBel HK.out (by omega)⟩
end Go.Proofs.Ytpmcgicopogbhaa
