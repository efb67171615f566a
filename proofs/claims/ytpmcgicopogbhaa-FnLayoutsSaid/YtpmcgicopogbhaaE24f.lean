/- The logarithm of a formula of two letters. Conditions: as stated at each contract. -/
import Derived.Test.YtpmcgicopogbhaaProg
import Derived.Test.YtpmcgicopogbhaaBase
import Derived.Test.YtpmcgicopogbhaaRw
import Derived.Test.YtpmcgicopogbhaaRg
import Derived.Test.YtpmcgicopogbhaaL01
import Derived.Test.YtpmcgicopogbhaaCp
import Derived.Test.YtpmcgicopogbhaaL18
import Derived.Test.YtpmcgicopogbhaaL23
import Derived.Test.YtpmcgicopogbhaaL03
import Derived.Test.YtpmcgicopogbhaaL24
import Derived.Test.YtpmcgicopogbhaaL24b
import Derived.Test.YtpmcgicopogbhaaL24f
import Derived.Test.YtpmcgicopogbhaaL24g
import Derived.Test.YtpmcgicopogbhaaL24r
import Derived.Test.YtpmcgicopogbhaaM24
import Derived.Test.YtpmcgicopogbhaaE24
import Derived.Test.YtpmcgicopogbhaaD00
import Derived.WalkKit
import Derived.WalkSpells
import Derived.WalkLawsBesides
import Derived.Lib.Hide
import Derived.Deep.QuietTactic
import Derived.BigQuiet
import Derived.Deep.Draws
import Derived.Deep.RegionHeld3
import Derived.Deep.Cut
namespace Go.Proofs.Ytpmcgicopogbhaa
open Go.RowKit
set_option linter.unusedVariables false
set_option linter.unusedSimpArgs false
theorem okCh_fm {C : Ch} (h : okCh C = true) : okFm C = true ∧ C.nm.size = 2 := by
  simp only [okCh, Bool.and_eq_true, decide_eq_true_eq] at h
  exact ⟨h.1.1.1.1, h.1.1.1.2⟩
theorem isValued_c (C : Ch) (A : Option Addr) (c : Nat) (B : Option Addr) (d : Nat) (ps : List (Int × Int)) (h : okCh C = true) (hp : okFs ps = true) (h2 : ps.length = 2) (hn : C.zs.length ≤ 1048576) (w : World) (hA : Ints w A C.zs) (hB : Prs w B ps) :
    Calls Try.prog 80 #[.agg #[.int .i64 C.dg, .int .i64 C.tn, .string C.nm, .slice A C.zs.length c], .slice B ps.length d] w fun r w' => r = .returned (.bool true) ∧ Below w.heap.size w w' := by
  have HO := Lib.hid h
  have HP := Lib.hid hp
  have H2 := Lib.hid h2
  obtain ⟨f1, f2⟩ := okCh_fm h
  have F1 := Lib.hid f1
  have F2 := Lib.hid f2
  have HI := Lib.hid hA
  have HL := Lib.hid hB
  clear h hp h2 f1 f2 hA hB
  have HB := Lib.hid (Below.refl w.heap.size w)
  have HC := Lib.hid (by have h := Blk.new w 28 #[.int .i64 C.dg, .int .i64 C.tn, .string C.nm, .slice A C.zs.length c]; (try simp only [World.size_alloc] at h); exact h)
  replace HI := Lib.hid (Ints.alloc (.cells #[.int .i64 C.dg, .int .i64 C.tn, .string C.nm, .slice A C.zs.length c] 28) HI.out)
  replace HL := Lib.hid (Prs.alloc (.cells #[.int .i64 C.dg, .int .i64 C.tn, .string C.nm, .slice A C.zs.length c] 28) HL.out)
  replace HB := Lib.hid (Bel.alloc HB.out (.cells #[.int .i64 C.dg, .int .i64 C.tn, .string C.nm, .slice A C.zs.length c] 28))
  have hm : C.nm.size ≤ 1048576 := by rw [F2.out]; omega
  go_enter Try.func80, Try.ntmps80
  go_wp2_with (first | (refine wpList_load_blkG 28 _ _ (Blk.step (Bel.ka0 HB.out (by repeat (with_reducible first | exact Below.refl _ _ | refine Bel.alloc ?_ _ | refine Below.drew ?_ | refine Bel.drewN ?_ _))) HC.out) Try.underlying28 (by kernel_rfl) rfl rfl (by rfl) ?_))
  go_at_call 102; refine (IsFormula_I C A c hn hm _ (by repeat (with_reducible first | exact HI.out | assumption | refine Ints.drew ?_ | refine Ints.drewN _ ?_ | refine Ints.alloc _ ?_ | refine Ints.step (by assumption) ?_))).mono ?_; rintro e w1 ⟨rfl, hb1⟩; have hka := Bel.ka HB.out hb1 (by repeat (with_reducible first | exact Below.refl _ _ | refine Bel.alloc ?_ _ | refine Below.drew ?_ | refine Bel.drewN ?_ _)); (try (replace HC := Lib.hid (Blk.step hb1 (Blk.step hka HC.out)))); (try (replace HI := Lib.hid (Ints.step hb1 (Ints.step hka HI.out)))); (try (replace HL := Lib.hid (Prs.step hb1 (Prs.step hka HL.out)))); replace HB := Lib.hid (Bel.step hb1 (Bel.step hka HB.out)); have hsz1 := hb1.size; have hsy1 := hka.size; (try simp only [World.size_alloc, World.size_drew, World.heap_drewN, World.size_setCell] at hsz1 hsy1); clear hka hb1
  rw [F1.out]
  have p1 : w1.cell? ⟨w.heap.size, 2, none⟩ = some (.string C.nm) := HC.out.cell _
  have hlen : ((ps.length : Int) == (C.nm.size : Int)) = true := by rw [H2.out, F2.out]; rfl
  have hlen2 : (ps.length == C.nm.size) = true := by rw [H2.out, F2.out]; rfl
  go_wp2_with fail
  go_at_call 153; refine (areFigures_c B d ps (by rw [H2.out]; omega) _ (by repeat (with_reducible first | exact HL.out | assumption | refine Prs.drew ?_ | refine Prs.drewN _ ?_ | refine Prs.alloc _ ?_ | refine Prs.step (by assumption) ?_))).mono ?_; rintro e w2 ⟨rfl, hb2⟩; have hka := Bel.ka HB.out hb2 (by repeat (with_reducible first | exact Below.refl _ _ | refine Bel.alloc ?_ _ | refine Below.drew ?_ | refine Bel.drewN ?_ _)); (try (replace HC := Lib.hid (Blk.step hb2 (Blk.step hka HC.out)))); (try (replace HI := Lib.hid (Ints.step hb2 (Ints.step hka HI.out)))); (try (replace HL := Lib.hid (Prs.step hb2 (Prs.step hka HL.out)))); replace HB := Lib.hid (Bel.step hb2 (Bel.step hka HB.out)); have hsz2 := hb2.size; have hsy2 := hka.size; (try simp only [World.size_alloc, World.size_drew, World.heap_drewN, World.size_setCell] at hsz2 hsy2); clear hka hb2
  rw [HP.out]
  go_wp2
  go_ret
  exact ⟨rfl, HB.out⟩
theorem FormulaLog_I (C : Ch) (A : Option Addr) (c : Nat) (B : Option Addr) (ud ut vd vt : Int) (d : Nat) (h : okCh C = true) (hu : okF ud ut = true) (hv : okF vd vt = true) (hn : C.zs.length ≤ 1048576) (w : World) (hA : Ints w A C.zs) (hB : Prs w B [(ud, ut), (vd, vt)]) :
    Calls Try.prog 15 #[.agg #[.int .i64 C.dg, .int .i64 C.tn, .string C.nm, .slice A C.zs.length c], .slice B 2 d] w fun r w' => r = .returned (.tuple #[.agg #[.int .i64 (fmL C ud ut vd vt), .int .i64 (fmH C ud ut vd vt)], .int .i64 0]) ∧ Below w.heap.size w w' := by
  have HO := Lib.hid h
  have HP := Lib.hid (show okFs [(ud, ut), (vd, vt)] = true by simp [okFs, hu, hv])
  have HI := Lib.hid hA
  have HL := Lib.hid hB
  clear h hu hv hA hB
  have HB := Lib.hid (Below.refl w.heap.size w)
  have HC := Lib.hid (by have h := Blk.new w 28 #[.int .i64 C.dg, .int .i64 C.tn, .string C.nm, .slice A C.zs.length c]; (try simp only [World.size_alloc] at h); exact h)
  replace HI := Lib.hid (Ints.alloc (.cells #[.int .i64 C.dg, .int .i64 C.tn, .string C.nm, .slice A C.zs.length c] 28) HI.out)
  replace HL := Lib.hid (Prs.alloc (.cells #[.int .i64 C.dg, .int .i64 C.tn, .string C.nm, .slice A C.zs.length c] 28) HL.out)
  replace HB := Lib.hid (Bel.alloc HB.out (.cells #[.int .i64 C.dg, .int .i64 C.tn, .string C.nm, .slice A C.zs.length c] 28))
  have HR := Lib.hid (by have h := Blk.new (w.alloc (.cells #[.int .i64 C.dg, .int .i64 C.tn, .string C.nm, .slice A C.zs.length c] 28)) 39 #[.int .i64 0, .int .i64 0]; (try simp only [World.size_alloc] at h); exact h)
  replace HC := Lib.hid (Blk.alloc (.cells #[.int .i64 0, .int .i64 0] 39) HC.out)
  replace HI := Lib.hid (Ints.alloc (.cells #[.int .i64 0, .int .i64 0] 39) HI.out)
  replace HL := Lib.hid (Prs.alloc (.cells #[.int .i64 0, .int .i64 0] 39) HL.out)
  replace HB := Lib.hid (Bel.alloc HB.out (.cells #[.int .i64 0, .int .i64 0] 39))
  go_enter Try.func15, Try.ntmps15
  go_wp2_with (first | (refine wpList_load_blkG 28 _ _ (Blk.step (Bel.ka0 HB.out (by repeat (with_reducible first | exact Below.refl _ _ | refine Bel.alloc ?_ _ | refine Below.drew ?_ | refine Bel.drewN ?_ _))) HC.out) Try.underlying28 (by kernel_rfl) rfl rfl (by rfl) ?_))
  go_at_call 80; refine (isValued_c C A c B d [(ud, ut), (vd, vt)] HO.out HP.out rfl hn _ (by repeat (with_reducible first | exact HI.out | assumption | refine Ints.drew ?_ | refine Ints.drewN _ ?_ | refine Ints.alloc _ ?_ | refine Ints.step (by assumption) ?_)) (by repeat (with_reducible first | exact HL.out | assumption | refine Prs.drew ?_ | refine Prs.drewN _ ?_ | refine Prs.alloc _ ?_ | refine Prs.step (by assumption) ?_))).mono ?_; rintro e w1 ⟨rfl, hb1⟩; have hka := Bel.ka HB.out hb1 (by repeat (with_reducible first | exact Below.refl _ _ | refine Bel.alloc ?_ _ | refine Below.drew ?_ | refine Bel.drewN ?_ _)); (try (replace HC := Lib.hid (Blk.step hb1 (Blk.step hka HC.out)))); (try (replace HR := Lib.hid (Blk.step hb1 (Blk.step hka HR.out)))); (try (replace HI := Lib.hid (Ints.step hb1 (Ints.step hka HI.out)))); (try (replace HL := Lib.hid (Prs.step hb1 (Prs.step hka HL.out)))); replace HB := Lib.hid (Bel.step hb1 (Bel.step hka HB.out)); have hsz1 := hb1.size; have hsy1 := hka.size; (try simp only [World.size_alloc, World.size_drew, World.heap_drewN, World.size_setCell] at hsz1 hsy1); clear hka hb1
  go_wp2_with (first | (refine wpList_load_blkG 28 _ _ (Blk.step (Bel.ka0 HB.out (by repeat (with_reducible first | exact Below.refl _ _ | refine Bel.alloc ?_ _ | refine Below.drew ?_ | refine Bel.drewN ?_ _))) HC.out) Try.underlying28 (by kernel_rfl) rfl rfl (by rfl) ?_))
  go_at_call 81; refine (formulaLog_c C A c B d [(ud, ut), (vd, vt)] HO.out HP.out (by simp) _ (by repeat (with_reducible first | exact HI.out | assumption | refine Ints.drew ?_ | refine Ints.drewN _ ?_ | refine Ints.alloc _ ?_ | refine Ints.step (by assumption) ?_)) (by repeat (with_reducible first | exact HL.out | assumption | refine Prs.drew ?_ | refine Prs.drewN _ ?_ | refine Prs.alloc _ ?_ | refine Prs.step (by assumption) ?_))).mono ?_; rintro e w2 ⟨rfl, hb2⟩; have hka := Bel.ka HB.out hb2 (by repeat (with_reducible first | exact Below.refl _ _ | refine Bel.alloc ?_ _ | refine Below.drew ?_ | refine Bel.drewN ?_ _)); (try (replace HC := Lib.hid (Blk.step hb2 (Blk.step hka HC.out)))); (try (replace HR := Lib.hid (Blk.step hb2 (Blk.step hka HR.out)))); (try (replace HI := Lib.hid (Ints.step hb2 (Ints.step hka HI.out)))); (try (replace HL := Lib.hid (Prs.step hb2 (Prs.step hka HL.out)))); replace HB := Lib.hid (Bel.step hb2 (Bel.step hka HB.out)); have hsz2 := hb2.size; have hsy2 := hka.size; (try simp only [World.size_alloc, World.size_drew, World.heap_drewN, World.size_setCell] at hsz2 hsy2); clear hka hb2
  rw [(fm_two C ud ut vd vt).1, (fm_two C ud ut vd vt).2]
  go_wp2_with (first | (refine wpList_store_part 39 _ _ _ 0 _ _ (Blk.step (Bel.ka0 HB.out (by repeat (with_reducible first | exact Below.refl _ _ | refine Bel.alloc ?_ _ | refine Below.drew ?_ | refine Bel.drewN ?_ _))) HR.out) rfl rfl rfl rfl (by rfl) (by kernel_rfl) (by simp [go_sem, Value.cells, Value.oneCell']) (by simp [go_sem, Value.cells]) ?_; intro wS hBS hkb; simp [go_sem, Value.cells, setL] at hBS; have hka := Kp.kab HB.out hkb (by repeat (with_reducible first | exact Below.refl _ _ | refine Bel.alloc ?_ _ | refine Below.drew ?_ | refine Bel.drewN ?_ _)); (try (replace HC := Lib.hid ((Blk.step hka HC.out).kp hkb (by first | omega | (simp; omega))))); replace HB := Lib.hid (Kp.bel hkb (by first | omega | (simp; omega)) (by first | omega | (simp; omega)) (Bel.step hka HB.out)); replace HR := Lib.hid hBS; have hszS := hkb.size_; have hsyS := hka.size; (try simp only [World.size_alloc, World.size_drew, World.heap_drewN, World.size_setCell] at hszS hsyS); clear hBS hka hkb))
  exact bodyPost_ret (results_2 rfl (resF_cell HR.out Try.underlying39 (by kernel_rfl) rfl) (resF_tmp _ rfl)) rfl ⟨rfl, HB.out⟩
end Go.Proofs.Ytpmcgicopogbhaa
