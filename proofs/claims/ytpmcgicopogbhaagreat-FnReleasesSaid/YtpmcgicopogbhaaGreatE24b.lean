/- Orders of figures as the statements ask them of the program. Conditions: as stated at each contract. -/
import Derived.Test.YtpmcgicopogbhaaGreatProg
import Derived.Test.YtpmcgicopogbhaaGreatBase
import Derived.Test.YtpmcgicopogbhaaGreatZz
import Derived.Test.YtpmcgicopogbhaaGreatRw
import Derived.Test.YtpmcgicopogbhaaGreatRg
import Derived.Test.YtpmcgicopogbhaaGreatL01
import Derived.Test.YtpmcgicopogbhaaGreatCp
import Derived.Test.YtpmcgicopogbhaaGreatL18
import Derived.Test.YtpmcgicopogbhaaGreatL23
import Derived.Test.YtpmcgicopogbhaaGreatL03
import Derived.Test.YtpmcgicopogbhaaGreatL23d
import Derived.Test.YtpmcgicopogbhaaGreatL27o
import Derived.Test.YtpmcgicopogbhaaGreatD00
import Derived.WalkKit
import Derived.WalkSpells
import Derived.WalkLawsBesides
import Derived.Lib.Hide
import Derived.Deep.QuietTactic
import Derived.BigQuiet
import Derived.Deep.Draws
import Derived.Deep.RegionHeld3
import Derived.Deep.Cut
namespace Go.Proofs.YtpmcgicopogbhaaGreat
open Go.RowKit
set_option linter.unusedVariables false
set_option linter.unusedSimpArgs false
set_option maxRecDepth 20000 in
set_option maxHeartbeats 2000000 in
theorem CompareFigures_I (a b c d : Int) (h1 : okF a b = true) (h2 : okF c d = true) (w : World) :
    Calls Tryz.prog 77 #[.agg #[.int .i64 a, .int .i64 b], .agg #[.int .i64 c, .int .i64 d]] w fun e w' => e = .returned (.tuple #[.int .i64 (fc a b c d), .int .i64 0]) ∧ Below w.heap.size w w' := by
  have HO := Lib.hid (show okFs [(a, b), (c, d)] = true by simp [okFs, h1, h2])
  have H1 := Lib.hid h1
  have H2 := Lib.hid h2
  clear h1 h2
  have HB := Lib.hid (Below.refl w.heap.size w)
  have HA := Lib.hid (by have h := Blk.new w 25 #[.int .i64 a, .int .i64 b]; (try simp only [World.size_alloc] at h); exact h)
  replace HB := Lib.hid (Bel.alloc HB.out (.cells #[.int .i64 a, .int .i64 b] 25))
  have HC := Lib.hid (by have h := Blk.new (w.alloc (.cells #[.int .i64 a, .int .i64 b] 25)) 25 #[.int .i64 c, .int .i64 d]; (try simp only [World.size_alloc] at h); exact h)
  replace HA := Lib.hid (Blk.alloc (.cells #[.int .i64 c, .int .i64 d] 25) HA.out)
  replace HB := Lib.hid (Bel.alloc HB.out (.cells #[.int .i64 c, .int .i64 d] 25))
  go_enter Tryz.func77, Tryz.ntmps77
  go_wp2_with fail
  go_at_call 70; refine (areFigures_c (some ⟨w.heap.size + 1 + 1, 0, none⟩) 2 [(a, b), (c, d)] (by simp) _ (by have h := Prs.mk2 ((w.alloc (.cells #[.int .i64 a, .int .i64 b] 25)).alloc (.cells #[.int .i64 c, .int .i64 d] 25)) 25 a b c d; simp only [World.size_alloc] at h; exact h)).mono ?_; rintro e w1 ⟨rfl, hb1⟩; have hka := zba HB hb1; (try replace HA := yB hb1 hka HA); (try replace HC := yB hb1 hka HC); replace HB := Lib.hid (Bel.step hb1 (Bel.step hka HB.out)); have hsz1 := hb1.size; have hsy1 := hka.size; (try simp only [World.size_alloc, World.size_drew, World.heap_drewN, World.size_setCell] at hsz1 hsy1); clear hka hb1
  rw [HO.out]
  have c0 : w1.cell? ⟨w.heap.size, 0, none⟩ = some (.int .i64 a) := by rw [HA.out.cell]; rfl
  have c1 : w1.cell? ⟨w.heap.size, 1, none⟩ = some (.int .i64 b) := by rw [HA.out.cell]; rfl
  have c2 : w1.cell? ⟨w.heap.size + 1, 0, none⟩ = some (.int .i64 c) := by rw [HC.out.cell]; rfl
  have c3 : w1.cell? ⟨w.heap.size + 1, 1, none⟩ = some (.int .i64 d) := by rw [HC.out.cell]; rfl
  go_wp2_with fail
  go_at_call 72; refine (compareFigures_c a b c d H1.out H2.out _).mono ?_; rintro e w2 ⟨rfl, hb2⟩; have hka := zba HB hb2; replace HB := Lib.hid (Bel.step hb2 (Bel.step hka HB.out)); have hsz2 := hb2.size; have hsy2 := hka.size; (try simp only [World.size_alloc, World.size_drew, World.heap_drewN, World.size_setCell] at hsz2 hsy2); clear hka hb2
  go_wp2
  go_ret2
  exact ⟨rfl, HB.out⟩
set_option maxRecDepth 20000 in
set_option maxHeartbeats 2000000 in
theorem between_c (a b c d e f : Int) (h1 : okF a b = true) (h2 : okF c d = true) (h3 : okF e f = true) (w : World) :
    Calls Tryz.prog 23 #[.agg #[.int .i64 a, .int .i64 b], .agg #[.int .i64 c, .int .i64 d], .agg #[.int .i64 e, .int .i64 f]] w fun r w' => r = .returned (.bool (decide (fc a b c d ≤ 0) && decide (fc c d e f ≤ 0))) ∧ Below w.heap.size w w' := by
  have H1 := Lib.hid h1
  have H2 := Lib.hid h2
  have H3 := Lib.hid h3
  clear h1 h2 h3
  have HB := Lib.hid (Below.refl w.heap.size w)
  have HA := Lib.hid (by have h := Blk.new w 25 #[.int .i64 a, .int .i64 b]; (try simp only [World.size_alloc] at h); exact h)
  replace HB := Lib.hid (Bel.alloc HB.out (.cells #[.int .i64 a, .int .i64 b] 25))
  have HC := Lib.hid (by have h := Blk.new (w.alloc (.cells #[.int .i64 a, .int .i64 b] 25)) 25 #[.int .i64 c, .int .i64 d]; (try simp only [World.size_alloc] at h); exact h)
  replace HA := Lib.hid (Blk.alloc (.cells #[.int .i64 c, .int .i64 d] 25) HA.out)
  replace HB := Lib.hid (Bel.alloc HB.out (.cells #[.int .i64 c, .int .i64 d] 25))
  have HD := Lib.hid (by have h := Blk.new ((w.alloc (.cells #[.int .i64 a, .int .i64 b] 25)).alloc (.cells #[.int .i64 c, .int .i64 d] 25)) 25 #[.int .i64 e, .int .i64 f]; (try simp only [World.size_alloc] at h); exact h)
  replace HA := Lib.hid (Blk.alloc (.cells #[.int .i64 e, .int .i64 f] 25) HA.out)
  replace HC := Lib.hid (Blk.alloc (.cells #[.int .i64 e, .int .i64 f] 25) HC.out)
  replace HB := Lib.hid (Bel.alloc HB.out (.cells #[.int .i64 e, .int .i64 f] 25))
  go_enter Tryz.func23, Tryz.ntmps23
  go_wp2_with fail
  go_at_call 77; refine (CompareFigures_I a b c d H1.out H2.out _).mono ?_; rintro e w1 ⟨rfl, hb1⟩; have hka := zba HB hb1; (try replace HC := yB hb1 hka HC); (try replace HD := yB hb1 hka HD); replace HB := Lib.hid (Bel.step hb1 (Bel.step hka HB.out)); have hsz1 := hb1.size; have hsy1 := hka.size; (try simp only [World.size_alloc, World.size_drew, World.heap_drewN, World.size_setCell] at hsz1 hsy1); clear hka hb1
  have c2 : w1.cell? ⟨w.heap.size + 1, 0, none⟩ = some (.int .i64 c) := by rw [HC.out.cell]; rfl
  have c3 : w1.cell? ⟨w.heap.size + 1, 1, none⟩ = some (.int .i64 d) := by rw [HC.out.cell]; rfl
  have c4 : w1.cell? ⟨w.heap.size + 1 + 1, 0, none⟩ = some (.int .i64 e) := by rw [HD.out.cell]; rfl
  have c5 : w1.cell? ⟨w.heap.size + 1 + 1, 1, none⟩ = some (.int .i64 f) := by rw [HD.out.cell]; rfl
  go_wp2_with fail
  go_at_call 77; refine (CompareFigures_I c d e f H2.out H3.out _).mono ?_; rintro e w2 ⟨rfl, hb2⟩; have hka := zba HB hb2; replace HB := Lib.hid (Bel.step hb2 (Bel.step hka HB.out)); have hsz2 := hb2.size; have hsy2 := hka.size; (try simp only [World.size_alloc, World.size_drew, World.heap_drewN, World.size_setCell] at hsz2 hsy2); clear hka hb2
  by_cases hx : fc a b c d ≤ 0
  · by_cases hy : fc c d e f ≤ 0
    · go_wp2
      go_ret
      exact ⟨ret_bool (by simp [hx, hy]), HB.out⟩
    · go_wp2
      go_ret
      exact ⟨ret_bool (by simp [hx, hy]), HB.out⟩
  · have hx' : decide (fc a b c d ≤ 0) = false := decide_eq_false hx
    go_wp2
    go_ret
    exact ⟨ret_bool (by rw [hx']; rfl), HB.out⟩
end Go.Proofs.YtpmcgicopogbhaaGreat
