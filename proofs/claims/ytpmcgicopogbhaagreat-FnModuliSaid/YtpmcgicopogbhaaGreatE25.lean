/- The statements' own comparison of lists of integers. Conditions: as stated at each contract. -/
import Derived.Test.YtpmcgicopogbhaaGreatProg
import Derived.Test.YtpmcgicopogbhaaGreatBase
import Derived.Test.YtpmcgicopogbhaaGreatZz
import Derived.Test.YtpmcgicopogbhaaGreatRw
import Derived.Test.YtpmcgicopogbhaaGreatRg
import Derived.Test.YtpmcgicopogbhaaGreatL01
import Derived.Test.YtpmcgicopogbhaaGreatCp
import Derived.Test.YtpmcgicopogbhaaGreatD00
import Derived.WalkKit
import Derived.WalkSpells
import Derived.WalkLawsBesides
import Derived.Lib.Hide
import Derived.Deep.QuietTactic
import Derived.BigQuiet
import Derived.Deep.Draws
import Derived.Deep.RegionHeld3
import Derived.Deep.Cut
namespace Go.Proofs.YtpmcgicopogbhaaGreat
open Go.RowKit
set_option linter.unusedVariables false
set_option linter.unusedSimpArgs false
theorem likeInts_c (A B : Option Addr) (c d : Nat) (zs : List Int) (hx : zs.length ≤ 1048576) (w : World) (hA : Ints w A zs) (hB : Ints w B zs) :
    Calls Tryz.prog 132 #[.slice A zs.length c, .slice B zs.length d] w fun e w' => e = .returned (.bool true) ∧ Below w.heap.size w w' := by
  go_enter Tryz.func132, Tryz.ntmps132
  go_wp2
  go_loopw [5] (fun i wr => ∃ k : Nat, k ≤ zs.length ∧ i = .int .i64 k ∧ ∃ n, wr = w.drewN n) (fun i _ => zs.length - (intOf i).toNat)
  case atStart => exact ⟨0, Nat.zero_le _, rfl, 0, rfl⟩
  case round =>
    obtain ⟨k, hk, rfl, n, rfl⟩ := hrel
    by_cases hlt : k < zs.length
    · obtain ⟨b, o, rfl, hbb, hc0⟩ := hA.at_ k hlt
      obtain ⟨b', o', rfl, hbb', hd0⟩ := hB.at_ k hlt
      go_wp2
      go_quiet (fail)
      go_wp2
      go_roundw
      case rel => exact ⟨k + 1, by omega, by go_num, _, rfl⟩
      case measure => simp [intOf]; omega
    · have e : k = zs.length := by omega
      subst e
      go_wp2
      go_ret
      exact ⟨rfl, Bel.drewN (Below.refl _ _) n⟩
open Go.RowKit
set_option linter.unusedVariables false
set_option linter.unusedSimpArgs false
set_option maxRecDepth 20000 in
set_option maxHeartbeats 2000000 in
theorem likeFormulas_c (C : Ch) (A B : Option Addr) (c d : Nat) (hn : C.zs.length ≤ 1048576) (w : World) (hA : Ints w A C.zs) (hB : Ints w B C.zs) :
    Calls Tryz.prog 92 #[.agg #[.int .i64 C.dg, .int .i64 C.tn, .string C.nm, .slice A C.zs.length c], .agg #[.int .i64 C.dg, .int .i64 C.tn, .string C.nm, .slice B C.zs.length d]] w fun e w' => e = .returned (.bool true) ∧ Below w.heap.size w w' := by
  have HI := Lib.hid hA
  have HJ := Lib.hid hB
  clear hA hB
  have HB := Lib.hid (Below.refl w.heap.size w)
  have HF := Lib.hid (by have h := Blk.new w 28 #[.int .i64 C.dg, .int .i64 C.tn, .string C.nm, .slice A C.zs.length c]; (try simp only [World.size_alloc] at h); exact h)
  replace HI := Lib.hid (Ints.alloc (.cells #[.int .i64 C.dg, .int .i64 C.tn, .string C.nm, .slice A C.zs.length c] 28) HI.out)
  replace HJ := Lib.hid (Ints.alloc (.cells #[.int .i64 C.dg, .int .i64 C.tn, .string C.nm, .slice A C.zs.length c] 28) HJ.out)
  replace HB := Lib.hid (Bel.alloc HB.out (.cells #[.int .i64 C.dg, .int .i64 C.tn, .string C.nm, .slice A C.zs.length c] 28))
  have HG := Lib.hid (by have h := Blk.new (w.alloc (.cells #[.int .i64 C.dg, .int .i64 C.tn, .string C.nm, .slice A C.zs.length c] 28)) 28 #[.int .i64 C.dg, .int .i64 C.tn, .string C.nm, .slice B C.zs.length d]; (try simp only [World.size_alloc] at h); exact h)
  replace HF := Lib.hid (Blk.alloc (.cells #[.int .i64 C.dg, .int .i64 C.tn, .string C.nm, .slice B C.zs.length d] 28) HF.out)
  replace HI := Lib.hid (Ints.alloc (.cells #[.int .i64 C.dg, .int .i64 C.tn, .string C.nm, .slice B C.zs.length d] 28) HI.out)
  replace HJ := Lib.hid (Ints.alloc (.cells #[.int .i64 C.dg, .int .i64 C.tn, .string C.nm, .slice B C.zs.length d] 28) HJ.out)
  replace HB := Lib.hid (Bel.alloc HB.out (.cells #[.int .i64 C.dg, .int .i64 C.tn, .string C.nm, .slice B C.zs.length d] 28))
  go_enter Tryz.func92, Tryz.ntmps92
  go_wp2_with fail
  go_at_call 132; refine (likeInts_c A B c d C.zs hn _ (by repeat (with_reducible first | exact HI.out | assumption | refine Ints.drew ?_ | refine Ints.drewN _ ?_ | refine Ints.alloc _ ?_ | refine Ints.step (by assumption) ?_)) (by repeat (with_reducible first | exact HJ.out | assumption | refine Ints.drew ?_ | refine Ints.drewN _ ?_ | refine Ints.alloc _ ?_ | refine Ints.step (by assumption) ?_))).mono ?_; rintro e w1 ⟨rfl, hb1⟩; have hka := zba HB hb1; replace HB := Lib.hid (Bel.step hb1 (Bel.step hka HB.out)); have hsz1 := hb1.size; have hsy1 := hka.size; (try simp only [World.size_alloc, World.size_drew, World.heap_drewN, World.size_setCell] at hsz1 hsy1); clear hka hb1
  go_wp2
  go_ret
  exact ⟨rfl, HB.out⟩
set_option maxRecDepth 20000 in
set_option maxHeartbeats 2000000 in
theorem likeCharts_c (C : Ch) (A B : Option Addr) (c d : Nat) (hn : C.zs.length ≤ 1048576) (w : World) (hA : Ints w A C.zs) (hB : Ints w B C.zs) :
    Calls Tryz.prog 38 #[.agg #[.int .i64 C.dg, .int .i64 C.tn, .string C.nm, .slice A C.zs.length c, .int .i64 C.wd, .int .i64 C.lf, .int .i64 C.rt], .agg #[.int .i64 C.dg, .int .i64 C.tn, .string C.nm, .slice B C.zs.length d, .int .i64 C.wd, .int .i64 C.lf, .int .i64 C.rt]] w fun e w' => e = .returned (.bool true) ∧ Below w.heap.size w w' := by
  have HI := Lib.hid hA
  have HJ := Lib.hid hB
  clear hA hB
  have HB := Lib.hid (Below.refl w.heap.size w)
  have HF := Lib.hid (by have h := Blk.new w 30 #[.int .i64 C.dg, .int .i64 C.tn, .string C.nm, .slice A C.zs.length c, .int .i64 C.wd, .int .i64 C.lf, .int .i64 C.rt]; (try simp only [World.size_alloc] at h); exact h)
  replace HI := Lib.hid (Ints.alloc (.cells #[.int .i64 C.dg, .int .i64 C.tn, .string C.nm, .slice A C.zs.length c, .int .i64 C.wd, .int .i64 C.lf, .int .i64 C.rt] 30) HI.out)
  replace HJ := Lib.hid (Ints.alloc (.cells #[.int .i64 C.dg, .int .i64 C.tn, .string C.nm, .slice A C.zs.length c, .int .i64 C.wd, .int .i64 C.lf, .int .i64 C.rt] 30) HJ.out)
  replace HB := Lib.hid (Bel.alloc HB.out (.cells #[.int .i64 C.dg, .int .i64 C.tn, .string C.nm, .slice A C.zs.length c, .int .i64 C.wd, .int .i64 C.lf, .int .i64 C.rt] 30))
  have HG := Lib.hid (by have h := Blk.new (w.alloc (.cells #[.int .i64 C.dg, .int .i64 C.tn, .string C.nm, .slice A C.zs.length c, .int .i64 C.wd, .int .i64 C.lf, .int .i64 C.rt] 30)) 30 #[.int .i64 C.dg, .int .i64 C.tn, .string C.nm, .slice B C.zs.length d, .int .i64 C.wd, .int .i64 C.lf, .int .i64 C.rt]; (try simp only [World.size_alloc] at h); exact h)
  replace HF := Lib.hid (Blk.alloc (.cells #[.int .i64 C.dg, .int .i64 C.tn, .string C.nm, .slice B C.zs.length d, .int .i64 C.wd, .int .i64 C.lf, .int .i64 C.rt] 30) HF.out)
  replace HI := Lib.hid (Ints.alloc (.cells #[.int .i64 C.dg, .int .i64 C.tn, .string C.nm, .slice B C.zs.length d, .int .i64 C.wd, .int .i64 C.lf, .int .i64 C.rt] 30) HI.out)
  replace HJ := Lib.hid (Ints.alloc (.cells #[.int .i64 C.dg, .int .i64 C.tn, .string C.nm, .slice B C.zs.length d, .int .i64 C.wd, .int .i64 C.lf, .int .i64 C.rt] 30) HJ.out)
  replace HB := Lib.hid (Bel.alloc HB.out (.cells #[.int .i64 C.dg, .int .i64 C.tn, .string C.nm, .slice B C.zs.length d, .int .i64 C.wd, .int .i64 C.lf, .int .i64 C.rt] 30))
  go_enter Tryz.func38, Tryz.ntmps38
  go_wp2_with fail
  go_at_call 92; refine (likeFormulas_c C A B c d hn _ (by repeat (with_reducible first | exact HI.out | assumption | refine Ints.drew ?_ | refine Ints.drewN _ ?_ | refine Ints.alloc _ ?_ | refine Ints.step (by assumption) ?_)) (by repeat (with_reducible first | exact HJ.out | assumption | refine Ints.drew ?_ | refine Ints.drewN _ ?_ | refine Ints.alloc _ ?_ | refine Ints.step (by assumption) ?_))).mono ?_; rintro e w1 ⟨rfl, hb1⟩; have hka := zba HB hb1; (try replace HF := yB hb1 hka HF); (try replace HG := yB hb1 hka HG); replace HB := Lib.hid (Bel.step hb1 (Bel.step hka HB.out)); have hsz1 := hb1.size; have hsy1 := hka.size; (try simp only [World.size_alloc, World.size_drew, World.heap_drewN, World.size_setCell] at hsz1 hsy1); clear hka hb1
  have f4 : w1.cell? ⟨w.heap.size, 4, none⟩ = some (.int .i64 C.wd) := by rw [HF.out.cell]; rfl
  have f5 : w1.cell? ⟨w.heap.size, 5, none⟩ = some (.int .i64 C.lf) := by rw [HF.out.cell]; rfl
  have f6 : w1.cell? ⟨w.heap.size, 6, none⟩ = some (.int .i64 C.rt) := by rw [HF.out.cell]; rfl
  have g4 : w1.cell? ⟨w.heap.size + 1, 4, none⟩ = some (.int .i64 C.wd) := by rw [HG.out.cell]; rfl
  have g5 : w1.cell? ⟨w.heap.size + 1, 5, none⟩ = some (.int .i64 C.lf) := by rw [HG.out.cell]; rfl
  have g6 : w1.cell? ⟨w.heap.size + 1, 6, none⟩ = some (.int .i64 C.rt) := by rw [HG.out.cell]; rfl
  go_wp2
  go_ret
  exact ⟨rfl, HB.out⟩
end Go.Proofs.YtpmcgicopogbhaaGreat
