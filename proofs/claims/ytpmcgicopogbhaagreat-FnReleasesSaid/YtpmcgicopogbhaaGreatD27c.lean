/- Draws: a release and a pair. Conditions: as stated at each contract. -/
import Derived.Test.YtpmcgicopogbhaaGreatProg
import Derived.Test.YtpmcgicopogbhaaGreatBase
import Derived.Test.YtpmcgicopogbhaaGreatZz
import Derived.Test.YtpmcgicopogbhaaGreatRw
import Derived.Test.YtpmcgicopogbhaaGreatRg
import Derived.Test.YtpmcgicopogbhaaGreatL01
import Derived.Test.YtpmcgicopogbhaaGreatCp
import Derived.Test.YtpmcgicopogbhaaGreatCm
import Derived.Test.YtpmcgicopogbhaaGreatL18
import Derived.Test.YtpmcgicopogbhaaGreatL27o
import Derived.Test.YtpmcgicopogbhaaGreatD00
import Derived.Test.YtpmcgicopogbhaaGreatD01
import Derived.Test.YtpmcgicopogbhaaGreatD02
import Derived.Test.YtpmcgicopogbhaaGreatD18
import Derived.Test.YtpmcgicopogbhaaGreatD23
import Derived.Test.YtpmcgicopogbhaaGreatD27
import Derived.Test.YtpmcgicopogbhaaGreatD27b
import Derived.Test.YtpmcgicopogbhaaGreatE23
import Derived.WalkKit
import Derived.WalkSpells
import Derived.WalkLawsBesides
import Derived.Lib.Hide
import Derived.Deep.QuietTactic
import Derived.BigQuiet
import Derived.Deep.Draws
import Derived.Deep.RegionHeld3
import Derived.Deep.Cut
namespace Go.Proofs.YtpmcgicopogbhaaGreat
open Go.RowKit
set_option linter.unusedVariables false
set_option linter.unusedSimpArgs false
set_option maxRecDepth 20000 in
set_option maxHeartbeats 2000000 in
theorem DrawReadRelease_c (A : Option Addr) (c : Nat) (zs : List Int) (hz : zs.length ≤ 4096) (w : World) (hA : Byts w A zs) :
    Calls Tryz.prog 12 #[.slice A zs.length c] w (PrQ w) := by
  have HA := Lib.hid hA
  have HB := Lib.hid (Below.refl w.heap.size w)
  clear hA
  have HR1 := Lib.hid (by have h := Blk.new w 32 #[.int .i64 0, .int .i64 0, .string ⟨#[]⟩, .slice none 0 0, .int .i64 0, .int .i64 0, .int .i64 0, .int .i64 0, .int .i64 0, .int .i64 0, .int .i64 0, .int .i64 0, .int .i64 0, .int .i64 0, .int .i64 0, .int .i64 0, .int .i64 0]; (try simp only [World.size_alloc] at h); exact h)
  replace HB := Lib.hid (Bel.alloc HB.out (.cells #[.int .i64 0, .int .i64 0, .string ⟨#[]⟩, .slice none 0 0, .int .i64 0, .int .i64 0, .int .i64 0, .int .i64 0, .int .i64 0, .int .i64 0, .int .i64 0, .int .i64 0, .int .i64 0, .int .i64 0, .int .i64 0, .int .i64 0, .int .i64 0] 32))
  have HR2 := Lib.hid (by have h := Blk.new (w.alloc (.cells #[.int .i64 0, .int .i64 0, .string ⟨#[]⟩, .slice none 0 0, .int .i64 0, .int .i64 0, .int .i64 0, .int .i64 0, .int .i64 0, .int .i64 0, .int .i64 0, .int .i64 0, .int .i64 0, .int .i64 0, .int .i64 0, .int .i64 0, .int .i64 0] 32)) 25 #[.int .i64 0, .int .i64 0]; (try simp only [World.size_alloc] at h); exact h)
  replace HR1 := Lib.hid (Blk.alloc (.cells #[.int .i64 0, .int .i64 0] 25) HR1.out)
  replace HB := Lib.hid (Bel.alloc HB.out (.cells #[.int .i64 0, .int .i64 0] 25))
  have HR3 := Lib.hid (by have h := Blk.new ((w.alloc (.cells #[.int .i64 0, .int .i64 0, .string ⟨#[]⟩, .slice none 0 0, .int .i64 0, .int .i64 0, .int .i64 0, .int .i64 0, .int .i64 0, .int .i64 0, .int .i64 0, .int .i64 0, .int .i64 0, .int .i64 0, .int .i64 0, .int .i64 0, .int .i64 0] 32)).alloc (.cells #[.int .i64 0, .int .i64 0] 25)) 25 #[.int .i64 0, .int .i64 0]; (try simp only [World.size_alloc] at h); exact h)
  replace HR1 := Lib.hid (Blk.alloc (.cells #[.int .i64 0, .int .i64 0] 25) HR1.out)
  replace HR2 := Lib.hid (Blk.alloc (.cells #[.int .i64 0, .int .i64 0] 25) HR2.out)
  replace HB := Lib.hid (Bel.alloc HB.out (.cells #[.int .i64 0, .int .i64 0] 25))
  go_enter Tryz.func12, Tryz.ntmps12
  go_wp2_with fail
  go_at_call 56; refine (l27DrawPair_c A c zs hz _ (Byts.step (by repeat (with_reducible first | exact Below.refl _ _ | refine Bel.alloc ?_ _)) HA.out)).mono ?_; rintro e w1 ⟨R, g, q, ud, ut, vd, vt, rfl, hn, hm, hO, hb1⟩; have hka := zba HB hb1; (try replace HR1 := yB hb1 hka HR1); (try replace HR2 := yB hb1 hka HR2); (try replace HR3 := yB hb1 hka HR3); replace HB := Lib.hid (Bel.step hb1 (Bel.step hka HB.out)); have hsz1 := hb1.size; have hsy1 := hka.size; (try simp only [World.size_alloc, World.size_drew, World.heap_drewN, World.size_setCell] at hsz1 hsy1); clear hka hb1
  have hgr : (w.heap.size + 1 + 1 + 1 ≤ g ∧ g < w1.heap.size) := by have h := World.ownsRow.lt hO g rfl; simp only [World.size_alloc] at h; exact h
  have HO := Lib.hid hO
  clear hO
  go_wp2_with (first | (refine wpList_store_part 32 _ _ _ 0 _ _ (Blk.step (zb0 HB) HR1.out) rfl rfl rfl rfl (by rfl) (by kernel_rfl) (by simp [go_sem, Value.cells, Value.oneCell']) (by simp [go_sem, Value.cells]) ?_; intro wS hBS hkb; simp [go_sem, Value.cells, setL] at hBS; have hka := Kp.kab HB.out hkb (by repeat (with_reducible first | exact Below.refl _ _ | refine Bel.alloc ?_ _ | refine Below.drew ?_ | refine Bel.drewN ?_ _)); (try (replace HR2 := Lib.hid ((Blk.step hka HR2.out).kp hkb (by first | omega | (simp; omega))))); (try (replace HR3 := Lib.hid ((Blk.step hka HR3.out).kp hkb (by first | omega | (simp; omega))))); (try (replace HO := Lib.hid (Own.kpB (Own.step hka HO.out) hkb (by first | omega | (simp; omega))))); replace HB := Lib.hid (Kp.bel hkb (by first | omega | (simp; omega)) (by first | omega | (simp; omega)) (Bel.step hka HB.out)); replace HR1 := Lib.hid hBS; have hszS := hkb.size_; have hsyS := hka.size; (try simp only [World.size_alloc, World.size_drew, World.heap_drewN, World.size_setCell] at hszS hsyS); clear hBS hka hkb) | (refine wpList_store_part 25 _ _ _ 0 _ _ (Blk.step (zb0 HB) HR2.out) rfl rfl rfl rfl (by rfl) (by kernel_rfl) (by simp [go_sem, Value.cells, Value.oneCell']) (by simp [go_sem, Value.cells]) ?_; intro wS hBS hkb; simp [go_sem, Value.cells, setL] at hBS; have hka := Kp.kab HB.out hkb (by repeat (with_reducible first | exact Below.refl _ _ | refine Bel.alloc ?_ _ | refine Below.drew ?_ | refine Bel.drewN ?_ _)); (try (replace HR1 := Lib.hid ((Blk.step hka HR1.out).kp hkb (by first | omega | (simp; omega))))); (try (replace HR3 := Lib.hid ((Blk.step hka HR3.out).kp hkb (by first | omega | (simp; omega))))); (try (replace HO := Lib.hid (Own.kpB (Own.step hka HO.out) hkb (by first | omega | (simp; omega))))); replace HB := Lib.hid (Kp.bel hkb (by first | omega | (simp; omega)) (by first | omega | (simp; omega)) (Bel.step hka HB.out)); replace HR2 := Lib.hid hBS; have hszS := hkb.size_; have hsyS := hka.size; (try simp only [World.size_alloc, World.size_drew, World.heap_drewN, World.size_setCell] at hszS hsyS); clear hBS hka hkb) | (refine wpList_store_part 25 _ _ _ 0 _ _ (Blk.step (zb0 HB) HR3.out) rfl rfl rfl rfl (by rfl) (by kernel_rfl) (by simp [go_sem, Value.cells, Value.oneCell']) (by simp [go_sem, Value.cells]) ?_; intro wS hBS hkb; simp [go_sem, Value.cells, setL] at hBS; have hka := Kp.kab HB.out hkb (by repeat (with_reducible first | exact Below.refl _ _ | refine Bel.alloc ?_ _ | refine Below.drew ?_ | refine Bel.drewN ?_ _)); (try (replace HR1 := Lib.hid ((Blk.step hka HR1.out).kp hkb (by first | omega | (simp; omega))))); (try (replace HR2 := Lib.hid ((Blk.step hka HR2.out).kp hkb (by first | omega | (simp; omega))))); (try (replace HO := Lib.hid (Own.kpB (Own.step hka HO.out) hkb (by first | omega | (simp; omega))))); replace HB := Lib.hid (Kp.bel hkb (by first | omega | (simp; omega)) (by first | omega | (simp; omega)) (Bel.step hka HB.out)); replace HR3 := Lib.hid hBS; have hszS := hkb.size_; have hsyS := hka.size; (try simp only [World.size_alloc, World.size_drew, World.heap_drewN, World.size_setCell] at hszS hsyS); clear hBS hka hkb))
  exact bodyPost_ret (results_3 rfl (resF_cell HR1.out Tryz.underlying32 (by kernel_rfl) rfl) (resF_cell HR2.out Tryz.underlying25 (by kernel_rfl) rfl) (resF_cell HR3.out Tryz.underlying25 (by kernel_rfl) rfl)) rfl ⟨R, g, q, ud, ut, vd, vt, rfl, hn, hm, Own.ge_mono HO.out (by simp only [World.size_alloc]; omega), HB.out⟩
end Go.Proofs.YtpmcgicopogbhaaGreat
