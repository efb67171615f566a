/- The statements' own helpers for formulas and charts. Conditions: lengths of at most 2^20. -/
import Derived.Test.YtkhcepkcdfpofaaProg
import Derived.Test.YtkhcepkcdfpofaaBase
import Derived.Test.YtkhcepkcdfpofaaL01
import Derived.Test.YtkhcepkcdfpofaaCp
import Derived.WalkKit
import Derived.WalkSpells
import Derived.WalkLawsBesides
import Derived.Lib.Hide
import Derived.Deep.QuietTactic
import Derived.BigQuiet
import Derived.Deep.Draws
import Derived.Deep.RegionHeld3
namespace Go.Proofs.Ytkhcepkcdfpofaa
open Go.RowKit
set_option linter.unusedVariables false
/-- What is left of a size bound behind a formula. -/
def sz2 (l : Int) (C : Ch) : Int := if l < C.nm.size then -1 else szV (l - C.nm.size) C.zs.length
theorem szFormula_c (C : Ch) (A : Option Addr) (c : Nat) (l : Int) (h1 : 0 ≤ l) (h2 : l ≤ 1048576) (hn : C.zs.length ≤ 9223372036854775807) (hs : C.nm.size ≤ 9223372036854775807) (w : World) :
    Calls Try.prog 49 #[.agg #[.int .i64 C.dg, .int .i64 C.tn, .string C.nm, .slice A C.zs.length c], .int .i64 l] w fun e w' => e = .returned (.int .i64 (sz2 l C)) ∧ Below w.heap.size w w' := by
  by_cases h : l < C.nm.size
  · have HV := Lib.hid (show sz2 l C = -1 by simp [sz2, h])
    go_enter Try.func49, Try.ntmps49
    go_wp2
    go_ret
    exact ⟨ret_int HV.out.symm, by repeat (with_reducible first | exact Below.refl _ _ | assumption | refine Bel.alloc ?_ _ | refine Bel.step (by assumption) ?_ | refine Below.drew ?_ | refine Bel.drewN ?_ _ | refine Below.setCell ?_ (by first | exact Nat.le_refl _ | omega | (simp; done) | (simp; omega)) _)⟩
  · have HV := Lib.hid (show sz2 l C = szV (l - C.nm.size) C.zs.length by simp [sz2, h])
    by_cases h3 : szV (l - C.nm.size) C.zs.length < 0
    · have HW := Lib.hid (show szV (l - C.nm.size) C.zs.length = -1 by unfold szV at *; split at h3 <;> simp_all <;> omega)
      go_enter Try.func49, Try.ntmps49
      go_wp2_with fail
      go_at_call 97; refine (szInt64S_c _ _ _ _ (by omega) (by omega) (by assumption) _).mono ?_; rintro e w' ⟨rfl, rfl⟩
      go_wp2
      go_ret
      exact ⟨ret_int (by rw [HV.out, HW.out]), by repeat (with_reducible first | exact Below.refl _ _ | assumption | refine Bel.alloc ?_ _ | refine Bel.step (by assumption) ?_ | refine Below.drew ?_ | refine Bel.drewN ?_ _ | refine Below.setCell ?_ (by first | exact Nat.le_refl _ | omega | (simp; done) | (simp; omega)) _)⟩
    · go_enter Try.func49, Try.ntmps49
      go_wp2_with fail
      go_at_call 97; refine (szInt64S_c _ _ _ _ (by omega) (by omega) (by assumption) _).mono ?_; rintro e w' ⟨rfl, rfl⟩
      go_wp2
      go_ret
      exact ⟨ret_int HV.out.symm, by repeat (with_reducible first | exact Below.refl _ _ | assumption | refine Bel.alloc ?_ _ | refine Bel.step (by assumption) ?_ | refine Below.drew ?_ | refine Bel.drewN ?_ _ | refine Below.setCell ?_ (by first | exact Nat.le_refl _ | omega | (simp; done) | (simp; omega)) _)⟩
theorem szChart_c (C : Ch) (A : Option Addr) (c : Nat) (l : Int) (h1 : 0 ≤ l) (h2 : l ≤ 1048576) (hn : C.zs.length ≤ 9223372036854775807) (hs : C.nm.size ≤ 9223372036854775807) (w : World) :
    Calls Try.prog 13 #[.agg #[.int .i64 C.dg, .int .i64 C.tn, .string C.nm, .slice A C.zs.length c, .int .i64 C.wd, .int .i64 C.lf, .int .i64 C.rt], .int .i64 l] w fun e w' => e = .returned (.int .i64 (sz2 l C)) ∧ Below w.heap.size w w' := by
  by_cases h3 : sz2 l C < 0
  · have HW := Lib.hid (show sz2 l C = -1 by unfold sz2 szV at *; (repeat' split at *) <;> omega)
    go_enter Try.func13, Try.ntmps13
    go_wp2_with fail
    go_at_call 49; refine (szFormula_c _ _ _ _ (by omega) (by omega) (by assumption) (by assumption) _).mono ?_; rintro e w1 ⟨rfl, hb1⟩; obtain ⟨hc1, hf1, hz1⟩ := bel hb1; (try simp only [World.size_drew, World.cell?_drew, World.frozen?_drew] at hc1 hf1 hz1); (try simp only [World.heap_drewN, World.cell?_drewN, World.frozen?_drewN] at hc1 hf1 hz1); (try have hl1 : w.heap.size < w1.heap.size := by (have hq := hb1.size; (try simp at hq); omega)); (try have hm1 : w.heap.size + 1 < w1.heap.size := by (have hq := hb1.size; (try simp at hq); omega)); (try have hn1 : w.heap.size + 1 + 1 < w1.heap.size := by (have hq := hb1.size; (try simp at hq); omega)); (try have hp1 : b < w1.heap.size := by (have hq := hb1.size; (try simp at hq); omega)); (try have ho1 : b' < w1.heap.size := by (have hq := hb1.size; (try simp at hq); omega))
    go_wp2
    go_ret
    exact ⟨ret_int (by rw [HW.out]), by repeat (with_reducible first | exact Below.refl _ _ | assumption | refine Bel.alloc ?_ _ | refine Bel.step (by assumption) ?_ | refine Below.drew ?_ | refine Bel.drewN ?_ _ | refine Below.setCell ?_ (by first | exact Nat.le_refl _ | omega | (simp; done) | (simp; omega)) _)⟩
  · go_enter Try.func13, Try.ntmps13
    go_wp2_with fail
    go_at_call 49; refine (szFormula_c _ _ _ _ (by omega) (by omega) (by assumption) (by assumption) _).mono ?_; rintro e w1 ⟨rfl, hb1⟩; obtain ⟨hc1, hf1, hz1⟩ := bel hb1; (try simp only [World.size_drew, World.cell?_drew, World.frozen?_drew] at hc1 hf1 hz1); (try simp only [World.heap_drewN, World.cell?_drewN, World.frozen?_drewN] at hc1 hf1 hz1); (try have hl1 : w.heap.size < w1.heap.size := by (have hq := hb1.size; (try simp at hq); omega)); (try have hm1 : w.heap.size + 1 < w1.heap.size := by (have hq := hb1.size; (try simp at hq); omega)); (try have hn1 : w.heap.size + 1 + 1 < w1.heap.size := by (have hq := hb1.size; (try simp at hq); omega)); (try have hp1 : b < w1.heap.size := by (have hq := hb1.size; (try simp at hq); omega)); (try have ho1 : b' < w1.heap.size := by (have hq := hb1.size; (try simp at hq); omega))
    go_wp2
    go_ret
    exact ⟨rfl, by repeat (with_reducible first | exact Below.refl _ _ | assumption | refine Bel.alloc ?_ _ | refine Bel.step (by assumption) ?_ | refine Below.drew ?_ | refine Bel.drewN ?_ _ | refine Below.setCell ?_ (by first | exact Nat.le_refl _ | omega | (simp; done) | (simp; omega)) _)⟩
theorem toFormula_c (C : Ch) (A : Option Addr) (c : Nat) (hn : C.zs.length ≤ 1048576) (w : World) (hA : Ints w A C.zs) :
    Calls Try.prog 52 #[.agg #[.int .i64 C.dg, .int .i64 C.tn, .string C.nm, .slice A C.zs.length c]] w fun e w' => ∃ g, e = .returned (.agg #[.int .i64 C.dg, .int .i64 C.tn, .string C.nm, .slice (some ⟨g, 0, none⟩) C.zs.length C.zs.length]) ∧ w.heap.size ≤ g ∧ Blk w' g 2 (icells C.zs) ∧ Below w.heap.size w w' := by
  go_enter Try.func52, Try.ntmps52
  go_wp2_with fail
  go_at_call 30; refine (toFigure_c _ _ _).mono ?_; rintro e w1 ⟨rfl, hb1⟩; obtain ⟨hc1, hf1, hz1⟩ := bel hb1; (try simp only [World.size_drew, World.cell?_drew, World.frozen?_drew] at hc1 hf1 hz1); (try simp only [World.heap_drewN, World.cell?_drewN, World.frozen?_drewN] at hc1 hf1 hz1); (try have hl1 : w.heap.size < w1.heap.size := by (have hq := hb1.size; (try simp at hq); omega)); (try have hm1 : w.heap.size + 1 < w1.heap.size := by (have hq := hb1.size; (try simp at hq); omega)); (try have hn1 : w.heap.size + 1 + 1 < w1.heap.size := by (have hq := hb1.size; (try simp at hq); omega)); (try have hp1 : b < w1.heap.size := by (have hq := hb1.size; (try simp at hq); omega)); (try have ho1 : b' < w1.heap.size := by (have hq := hb1.size; (try simp at hq); omega))
  go_wp2_with fail
  go_at_call 43; refine (toInt64S_c _ _ _ hn _ (Ints.step (show Below w.heap.size w _ from by repeat (with_reducible first | exact Below.refl _ _ | assumption | refine Bel.alloc ?_ _ | refine Bel.step (by assumption) ?_ | refine Below.drew ?_ | refine Bel.drewN ?_ _ | refine Below.setCell ?_ (by first | exact Nat.le_refl _ | omega | (simp; done) | (simp; omega)) _)) hA)).mono ?_; rintro e w2 ⟨rfl, hB2, hb2⟩; obtain ⟨hc2, hf2, hz2⟩ := bel hb2; (try simp only [World.size_drew, World.cell?_drew, World.frozen?_drew] at hc2 hf2 hz2); (try simp only [World.heap_drewN, World.cell?_drewN, World.frozen?_drewN] at hc2 hf2 hz2); (try have hl2 : w.heap.size < w2.heap.size := by (have hq := hb2.size; (try simp at hq); omega)); (try have hm2 : w.heap.size + 1 < w2.heap.size := by (have hq := hb2.size; (try simp at hq); omega)); (try have hn2 : w.heap.size + 1 + 1 < w2.heap.size := by (have hq := hb2.size; (try simp at hq); omega)); (try have hp2 : b < w2.heap.size := by (have hq := hb2.size; (try simp at hq); omega)); (try have ho2 : b' < w2.heap.size := by (have hq := hb2.size; (try simp at hq); omega))
  go_wp2
  have s1 := hb1.size
  have s2 := hb2.size
  simp at s1 s2
  refine bodyPost_ret (v := .agg #[.int .i64 C.dg, .int .i64 C.tn, .string C.nm, .slice (some ⟨w1.heap.size, 0, none⟩) C.zs.length C.zs.length]) (by simp [results, Try.results52, go_sem, *]) rfl ⟨_, rfl, by omega, ?_, by repeat (with_reducible first | exact Below.refl _ _ | assumption | refine Bel.alloc ?_ _ | refine Bel.step (by assumption) ?_ | refine Below.drew ?_ | refine Bel.drewN ?_ _ | refine Below.setCell ?_ (by first | exact Nat.le_refl _ | omega | (simp; done) | (simp; omega)) _)⟩
  have hB : Blk w2 w1.heap.size 2 (icells C.zs) := by simpa using hB2
  exact (by repeat (with_reducible first | exact hB | refine Blk.far _ (by first | (simp; done) | (simp; omega)) ?_))
theorem toChart_c (C : Ch) (A : Option Addr) (c : Nat) (hn : C.zs.length ≤ 1048576) (w : World) (hA : Ints w A C.zs) :
    Calls Try.prog 16 #[.agg #[.int .i64 C.dg, .int .i64 C.tn, .string C.nm, .slice A C.zs.length c, .int .i64 C.wd, .int .i64 C.lf, .int .i64 C.rt]] w fun e w' => ∃ g, e = .returned (.agg #[.int .i64 C.dg, .int .i64 C.tn, .string C.nm, .slice (some ⟨g, 0, none⟩) C.zs.length C.zs.length, .int .i64 C.wd, .int .i64 C.lf, .int .i64 C.rt]) ∧ w.heap.size ≤ g ∧ Blk w' g 2 (icells C.zs) ∧ Below w.heap.size w w' := by
  go_enter Try.func16, Try.ntmps16
  go_wp2_with fail
  go_at_call 52; refine (toFormula_c _ _ _ hn _ (Ints.step (show Below w.heap.size w _ from by repeat (with_reducible first | exact Below.refl _ _ | assumption | refine Bel.alloc ?_ _ | refine Bel.step (by assumption) ?_ | refine Below.drew ?_ | refine Bel.drewN ?_ _ | refine Below.setCell ?_ (by first | exact Nat.le_refl _ | omega | (simp; done) | (simp; omega)) _)) hA)).mono ?_; rintro e w1 ⟨g, rfl, hg1, hB1, hb1⟩
  obtain ⟨hc1, hf1, hz1⟩ := bel hb1
  have s1 := hb1.size
  simp at s1 hg1
  have hl1 : w.heap.size < w1.heap.size := by omega
  have hm1 : w.heap.size + 1 < w1.heap.size := by omega
  have hn1 : w.heap.size + 1 + 1 < w1.heap.size := by omega
  go_wp2
  refine bodyPost_ret (v := .agg #[.int .i64 C.dg, .int .i64 C.tn, .string C.nm, .slice (some ⟨g, 0, none⟩) C.zs.length C.zs.length, .int .i64 C.wd, .int .i64 C.lf, .int .i64 C.rt]) (by simp [results, Try.results16, go_sem, *]) rfl ⟨g, rfl, by omega, ?_, by repeat (with_reducible first | exact Below.refl _ _ | assumption | refine Bel.alloc ?_ _ | refine Bel.step (by assumption) ?_ | refine Below.drew ?_ | refine Bel.drewN ?_ _ | refine Below.setCell ?_ (by first | exact Nat.le_refl _ | omega | (simp; done) | (simp; omega)) _)⟩
  exact (by repeat (with_reducible first | exact hB1 | refine Blk.far _ (by first | (simp; done) | (simp; omega)) ?_))
theorem eqFormula_c (C : Ch) (A B : Option Addr) (c d : Nat) (hn : C.zs.length ≤ 1048576) (w : World) (hA : Ints w A C.zs) (hB : Ints w B C.zs) :
    Calls Try.prog 55 #[.agg #[.int .i64 C.dg, .int .i64 C.tn, .string C.nm, .slice A C.zs.length c], .agg #[.int .i64 C.dg, .int .i64 C.tn, .string C.nm, .slice B C.zs.length d]] w fun e w' => e = .returned (.bool true) ∧ Below w.heap.size w w' := by
  go_enter Try.func55, Try.ntmps55
  go_wp2_with fail
  go_at_call 41; refine (eqFigure_c _ _ _ _ _).mono ?_; rintro e w1 ⟨rfl, hb1⟩; obtain ⟨hc1, hf1, hz1⟩ := bel hb1; (try simp only [World.size_drew, World.cell?_drew, World.frozen?_drew] at hc1 hf1 hz1); (try simp only [World.heap_drewN, World.cell?_drewN, World.frozen?_drewN] at hc1 hf1 hz1); (try have hl1 : w.heap.size < w1.heap.size := by (have hq := hb1.size; (try simp at hq); omega)); (try have hm1 : w.heap.size + 1 < w1.heap.size := by (have hq := hb1.size; (try simp at hq); omega)); (try have hn1 : w.heap.size + 1 + 1 < w1.heap.size := by (have hq := hb1.size; (try simp at hq); omega)); (try have hp1 : b < w1.heap.size := by (have hq := hb1.size; (try simp at hq); omega)); (try have ho1 : b' < w1.heap.size := by (have hq := hb1.size; (try simp at hq); omega))
  rw [eqP_self]
  have hbel1 : Below w.heap.size w w1 := by repeat (with_reducible first | exact Below.refl _ _ | assumption | refine Bel.alloc ?_ _ | refine Bel.step (by assumption) ?_ | refine Below.drew ?_ | refine Bel.drewN ?_ _ | refine Below.setCell ?_ (by first | exact Nat.le_refl _ | omega | (simp; done) | (simp; omega)) _)
  have hA1 := Ints.step hbel1 hA
  have hB1 := Ints.step hbel1 hB
  go_wp2_with fail
  go_at_call 45; refine (toB (eqInt64S_c _ _ _ _ _ _ hn hn _ hA1 hB1)).mono ?_; rintro e w2 ⟨rfl, hb2⟩; obtain ⟨hc2, hf2, hz2⟩ := bel hb2; (try simp only [World.size_drew, World.cell?_drew, World.frozen?_drew] at hc2 hf2 hz2); (try simp only [World.heap_drewN, World.cell?_drewN, World.frozen?_drewN] at hc2 hf2 hz2); (try have hl2 : w.heap.size < w2.heap.size := by (have hq := hb2.size; (try simp at hq); omega)); (try have hm2 : w.heap.size + 1 < w2.heap.size := by (have hq := hb2.size; (try simp at hq); omega)); (try have hn2 : w.heap.size + 1 + 1 < w2.heap.size := by (have hq := hb2.size; (try simp at hq); omega)); (try have hp2 : b < w2.heap.size := by (have hq := hb2.size; (try simp at hq); omega)); (try have ho2 : b' < w2.heap.size := by (have hq := hb2.size; (try simp at hq); omega))
  rw [eqL_self]
  go_wp2
  go_ret
  exact ⟨rfl, by repeat (with_reducible first | exact Below.refl _ _ | assumption | refine Bel.alloc ?_ _ | refine Bel.step (by assumption) ?_ | refine Below.drew ?_ | refine Bel.drewN ?_ _ | refine Below.setCell ?_ (by first | exact Nat.le_refl _ | omega | (simp; done) | (simp; omega)) _)⟩
theorem eqChart_c (C : Ch) (A B : Option Addr) (c d : Nat) (hn : C.zs.length ≤ 1048576) (w : World) (hA : Ints w A C.zs) (hB : Ints w B C.zs) :
    Calls Try.prog 19 #[.agg #[.int .i64 C.dg, .int .i64 C.tn, .string C.nm, .slice A C.zs.length c, .int .i64 C.wd, .int .i64 C.lf, .int .i64 C.rt], .agg #[.int .i64 C.dg, .int .i64 C.tn, .string C.nm, .slice B C.zs.length d, .int .i64 C.wd, .int .i64 C.lf, .int .i64 C.rt]] w fun e w' => e = .returned (.bool true) ∧ Below w.heap.size w w' := by
  go_enter Try.func19, Try.ntmps19
  go_wp2_with fail
  go_at_call 55; refine (eqFormula_c _ _ _ _ _ hn _ (Ints.step (show Below w.heap.size w _ from by repeat (with_reducible first | exact Below.refl _ _ | assumption | refine Bel.alloc ?_ _ | refine Bel.step (by assumption) ?_ | refine Below.drew ?_ | refine Bel.drewN ?_ _ | refine Below.setCell ?_ (by first | exact Nat.le_refl _ | omega | (simp; done) | (simp; omega)) _)) hA) (Ints.step (show Below w.heap.size w _ from by repeat (with_reducible first | exact Below.refl _ _ | assumption | refine Bel.alloc ?_ _ | refine Bel.step (by assumption) ?_ | refine Below.drew ?_ | refine Bel.drewN ?_ _ | refine Below.setCell ?_ (by first | exact Nat.le_refl _ | omega | (simp; done) | (simp; omega)) _)) hB)).mono ?_; rintro e w1 ⟨rfl, hb1⟩
  obtain ⟨hc1, hf1, hz1⟩ := bel hb1
  have s1 := hb1.size
  simp at s1
  have hl1 : w.heap.size < w1.heap.size := by omega
  have hm1 : w.heap.size + 1 < w1.heap.size := by omega
  go_wp2
  go_ret
  exact ⟨rfl, by repeat (with_reducible first | exact Below.refl _ _ | assumption | refine Bel.alloc ?_ _ | refine Bel.step (by assumption) ?_ | refine Below.drew ?_ | refine Bel.drewN ?_ _ | refine Below.setCell ?_ (by first | exact Nat.le_refl _ | omega | (simp; done) | (simp; omega)) _)⟩
end Go.Proofs.Ytkhcepkcdfpofaa
