/- Logarithms as the statements ask them of the program. Conditions: as stated at each contract. -/
import Derived.Test.YthfphjbaglgacaaProg
import Derived.Test.YthfphjbaglgacaaBase
import Derived.Test.YthfphjbaglgacaaRw
import Derived.Test.YthfphjbaglgacaaRg
import Derived.Test.YthfphjbaglgacaaL01
import Derived.Test.YthfphjbaglgacaaCp
import Derived.Test.YthfphjbaglgacaaL18
import Derived.Test.YthfphjbaglgacaaL23
import Derived.Test.YthfphjbaglgacaaL03
import Derived.Test.YthfphjbaglgacaaL24
import Derived.Test.YthfphjbaglgacaaL24b
import Derived.Test.YthfphjbaglgacaaD00
import Derived.WalkKit
import Derived.WalkSpells
import Derived.WalkLawsBesides
import Derived.Lib.Hide
import Derived.Deep.QuietTactic
import Derived.BigQuiet
import Derived.Deep.Draws
import Derived.Deep.RegionHeld3
import Derived.Deep.Cut
namespace Go.Proofs.Ythfphjbaglgacaa
open Go.RowKit
set_option linter.unusedVariables false
set_option linter.unusedSimpArgs false
theorem inside_c (a b c d : Int) (h1 : c ≤ a) (h2 : b ≤ d) (w : World) :
    Calls Try.prog 50 #[.agg #[.int .i64 a, .int .i64 b], .agg #[.int .i64 c, .int .i64 d]] w fun e w' => e = .returned (.bool true) ∧ Below w.heap.size w w' := by
  go_enter Try.func50, Try.ntmps50
  go_wp2
  go_ret
  exact ⟨rfl, by repeat (with_reducible first | exact Below.refl _ _ | assumption | refine Bel.alloc ?_ _ | refine Bel.step (by assumption) ?_ | refine Below.drew ?_ | refine Bel.drewN ?_ _ | refine Below.setCell ?_ (by first | exact Nat.le_refl _ | omega | (simp; done) | (simp; omega)) _)⟩
theorem big_yes (A : Option Addr) (c n : Nat) (h : 4096 < n) (w : World) : Calls Try.prog 9 #[.slice A n c] w fun e w' => e = .returned (.bool true) ∧ w' = w := by
  go_enter Try.func9, Try.ntmps9
  go_wp2
  go_ret
  exact ⟨ret_bool (decide_eq_true (by omega)), rfl⟩
theorem big_no (A : Option Addr) (c n : Nat) (h : n ≤ 4096) (w : World) : Calls Try.prog 9 #[.slice A n c] w fun e w' => e = .returned (.bool false) ∧ w' = w := by
  have h' : ¬ 4096 < n := by omega
  go_enter Try.func9, Try.ntmps9
  go_wp2
  go_ret
  exact ⟨ret_bool (decide_eq_false (by omega)), rfl⟩
theorem FigureLog_I (d t : Int) (h : okF d t = true) (w : World) :
    Calls Try.prog 51 #[.agg #[.int .i64 d, .int .i64 t]] w fun e w' => e = .returned (.tuple #[.agg #[.int .i64 (fgLo d t), .int .i64 (fgHi d t)], .int .i64 0]) ∧ Below w.heap.size w w' := by
  have HO := Lib.hid h
  obtain ⟨b1, b2, b3, b4⟩ := okF_iff h
  clear h
  go_enter Try.func51, Try.ntmps51
  go_wp2_with fail
  go_at_call 120; refine (IsFigure_I _ _ _).mono ?_; rintro e w1 ⟨rfl, hb1⟩; obtain ⟨hc1, hf1, hz1⟩ := bel hb1; (try simp only [World.size_drew, World.cell?_drew, World.frozen?_drew] at hc1 hf1 hz1); (try simp only [World.heap_drewN, World.cell?_drewN, World.frozen?_drewN] at hc1 hf1 hz1); (try have hl1 : w.heap.size < w1.heap.size := by (have hq := hb1.size; (try simp at hq); omega)); (try have hm1 : w.heap.size + 1 < w1.heap.size := by (have hq := hb1.size; (try simp at hq); omega)); (try have hn1 : w.heap.size + 1 + 1 < w1.heap.size := by (have hq := hb1.size; (try simp at hq); omega)); (try have hp1 : b < w1.heap.size := by (have hq := hb1.size; (try simp at hq); omega)); (try have ho1 : b' < w1.heap.size := by (have hq := hb1.size; (try simp at hq); omega))
  rw [HO.out]
  go_wp2_with fail
  go_at_call 121; refine (figureLog_c _ _ (by omega) (by omega) (by omega) (by omega) _).mono ?_; rintro e w2 ⟨rfl, hb2⟩; obtain ⟨hc2, hf2, hz2⟩ := bel hb2; (try simp only [World.size_drew, World.cell?_drew, World.frozen?_drew] at hc2 hf2 hz2); (try simp only [World.heap_drewN, World.cell?_drewN, World.frozen?_drewN] at hc2 hf2 hz2); (try have hl2 : w.heap.size < w2.heap.size := by (have hq := hb2.size; (try simp at hq); omega)); (try have hm2 : w.heap.size + 1 < w2.heap.size := by (have hq := hb2.size; (try simp at hq); omega)); (try have hn2 : w.heap.size + 1 + 1 < w2.heap.size := by (have hq := hb2.size; (try simp at hq); omega)); (try have hp2 : b < w2.heap.size := by (have hq := hb2.size; (try simp at hq); omega)); (try have ho2 : b' < w2.heap.size := by (have hq := hb2.size; (try simp at hq); omega))
  go_wp2
  refine bodyPost_ret (v := .tuple #[.agg #[.int .i64 (fgLo d t), .int .i64 (fgHi d t)], .int .i64 0]) (by simp [results, Try.results51, go_sem, *]) rfl ⟨rfl, by repeat (with_reducible first | exact Below.refl _ _ | assumption | refine Bel.alloc ?_ _ | refine Bel.step (by assumption) ?_ | refine Below.drew ?_ | refine Bel.drewN ?_ _ | refine Below.setCell ?_ (by first | exact Nat.le_refl _ | omega | (simp; done) | (simp; omega)) _)⟩
theorem IsInterval_I (a b : Int) (h1 : -1000000000000 ≤ a) (h2 : b ≤ 1000000000000) (h3 : a ≤ b) (w : World) :
    Calls Try.prog 122 #[.agg #[.int .i64 a, .int .i64 b]] w fun e w' => e = .returned (.bool true) ∧ Below w.heap.size w w' := by
  have h4 : -1000000000000 ≤ b := by omega
  have h5 : a ≤ 1000000000000 := by omega
  go_enter Try.func122, Try.ntmps122
  go_wp2
  go_ret
  exact ⟨rfl, by repeat (with_reducible first | exact Below.refl _ _ | assumption | refine Bel.alloc ?_ _ | refine Bel.step (by assumption) ?_ | refine Below.drew ?_ | refine Bel.drewN ?_ _ | refine Below.setCell ?_ (by first | exact Nat.le_refl _ | omega | (simp; done) | (simp; omega)) _)⟩
theorem valued_I (a b : Int) (h1 : -1000000000000 ≤ a) (h2 : b ≤ 1000000000000) (h4 : -1000000000000 ≤ b) (h5 : a ≤ 1000000000000) (w : World) :
    Calls Try.prog 123 #[.agg #[.int .i64 a, .int .i64 b]] w fun e w' => e = .returned (.tuple #[.agg #[.int .i64 a, .int .i64 b], .int .i64 0]) ∧ Below w.heap.size w w' := by
  go_enter Try.func123, Try.ntmps123
  go_wp2
  refine bodyPost_ret (v := .tuple #[.agg #[.int .i64 a, .int .i64 b], .int .i64 0]) (by simp [results, Try.results123, go_sem, *]) rfl ⟨rfl, by repeat (with_reducible first | exact Below.refl _ _ | assumption | refine Bel.alloc ?_ _ | refine Bel.step (by assumption) ?_ | refine Below.drew ?_ | refine Bel.drewN ?_ _ | refine Below.setCell ?_ (by first | exact Nat.le_refl _ | omega | (simp; done) | (simp; omega)) _)⟩
theorem scaledW_c (a b n : Int) (ha1 : -10000000000 ≤ a) (ha2 : a ≤ 10000000000) (hb1 : -10000000000 ≤ b) (hb2 : b ≤ 10000000000) (hn1 : -6 ≤ n) (hn2 : n ≤ 6) (w : World) :
    Calls Try.prog 124 #[.agg #[.int .i64 a, .int .i64 b], .int .i64 n, .int .i64 1] w fun r w' => r = .returned (.agg #[.int .i64 (mn (a * n) (b * n)), .int .i64 (mx (a * n) (b * n))]) ∧ Below w.heap.size w w' := by
  obtain ⟨p1, p2⟩ := mul_bd a n 10000000000 6 ha1 ha2 hn1 hn2
  obtain ⟨p3, p4⟩ := mul_bd b n 10000000000 6 hb1 hb2 hn1 hn2
  have e1 : IntKind.i64.wrap (a * n) = a * n := wr64 (by omega) (by omega)
  have e2 : IntKind.i64.wrap (b * n) = b * n := wr64 (by omega) (by omega)
  by_cases hm : a * n < b * n
  · have HM := Lib.hid (And.intro (mn_le (Int.le_of_lt hm)) (mx_le (Int.le_of_lt hm)))
    have HO := Lib.hid (And.intro (Fl_one (a * n)) (Cl_one (b * n)))
    go_enter Try.func124, Try.ntmps124
    go_wp2
    go_quiet (fail)
    go_wp2_with (first | (go_at_call 115; refine (down_c _ _ (by omega) (by omega) (by omega) (by omega) (by omega) _).mono ?_; rintro e w' ⟨rfl, rfl⟩) | (go_at_call 114; refine (up_c _ _ (by omega) (by omega) (by omega) (by omega) (by omega) _).mono ?_; rintro e w' ⟨rfl, rfl⟩))
    all_goals
      refine bodyPost_ret (v := .agg #[.int .i64 (Fl (a * n) 1), .int .i64 (Cl (b * n) 1)]) (by simp [results, Try.results124, go_sem, *]) rfl ⟨by rw [HM.out.1, HM.out.2, HO.out.1, HO.out.2], by repeat (with_reducible first | exact Below.refl _ _ | assumption | refine Bel.alloc ?_ _ | refine Bel.step (by assumption) ?_ | refine Below.drew ?_ | refine Bel.drewN ?_ _ | refine Below.setCell ?_ (by first | exact Nat.le_refl _ | omega | (simp; done) | (simp; omega)) _)⟩
  · by_cases hg : b * n < a * n
    · have HM := Lib.hid (And.intro (mn_ge (Int.le_of_lt hg)) (mx_ge (Int.le_of_lt hg)))
      have HO := Lib.hid (And.intro (Fl_one (b * n)) (Cl_one (a * n)))
      clear hm
      go_enter Try.func124, Try.ntmps124
      go_wp2
      go_quiet (fail)
      go_wp2_with (first | (go_at_call 115; refine (down_c _ _ (by omega) (by omega) (by omega) (by omega) (by omega) _).mono ?_; rintro e w' ⟨rfl, rfl⟩) | (go_at_call 114; refine (up_c _ _ (by omega) (by omega) (by omega) (by omega) (by omega) _).mono ?_; rintro e w' ⟨rfl, rfl⟩))
      all_goals
        refine bodyPost_ret (v := .agg #[.int .i64 (Fl (b * n) 1), .int .i64 (Cl (a * n) 1)]) (by simp [results, Try.results124, go_sem, *]) rfl ⟨by rw [HM.out.1, HM.out.2, HO.out.1, HO.out.2], by repeat (with_reducible first | exact Below.refl _ _ | assumption | refine Bel.alloc ?_ _ | refine Bel.step (by assumption) ?_ | refine Below.drew ?_ | refine Bel.drewN ?_ _ | refine Below.setCell ?_ (by first | exact Nat.le_refl _ | omega | (simp; done) | (simp; omega)) _)⟩
    · have he : b * n = a * n := by omega
      have HM := Lib.hid (show mn (a * n) (b * n) = a * n ∧ mx (a * n) (b * n) = a * n by rw [he]; simp [mn, mx])
      have HO := Lib.hid (And.intro (Fl_one (a * n)) (Cl_one (a * n)))
      have HE := Lib.hid he
      clear hm hg p3 p4 e2 he
      go_enter Try.func124, Try.ntmps124
      have e2 : IntKind.i64.wrap (b * n) = a * n := by rw [HE.out]; exact e1
      go_wp2
      go_quiet (fail)
      go_wp2_with (first | (go_at_call 115; refine (down_c _ _ (by omega) (by omega) (by omega) (by omega) (by omega) _).mono ?_; rintro e w' ⟨rfl, rfl⟩) | (go_at_call 114; refine (up_c _ _ (by omega) (by omega) (by omega) (by omega) (by omega) _).mono ?_; rintro e w' ⟨rfl, rfl⟩))
      all_goals
        refine bodyPost_ret (v := .agg #[.int .i64 (Fl (a * n) 1), .int .i64 (Cl (a * n) 1)]) (by simp [results, Try.results124, go_sem, *]) rfl ⟨by rw [HM.out.1, HM.out.2, HO.out.1, HO.out.2], by repeat (with_reducible first | exact Below.refl _ _ | assumption | refine Bel.alloc ?_ _ | refine Bel.step (by assumption) ?_ | refine Below.drew ?_ | refine Bel.drewN ?_ _ | refine Below.setCell ?_ (by first | exact Nat.le_refl _ | omega | (simp; done) | (simp; omega)) _)⟩
theorem ScaleLog_I (a b n : Int) (h1 : -10000000000 ≤ a) (h2 : b ≤ 10000000000) (h3 : a ≤ b) (hn1 : -6 ≤ n) (hn2 : n ≤ 6) (w : World) :
    Calls Try.prog 52 #[.agg #[.int .i64 a, .int .i64 b], .int .i64 n, .int .i64 1] w fun e w' => e = .returned (.tuple #[.agg #[.int .i64 (mn (a * n) (b * n)), .int .i64 (mx (a * n) (b * n))], .int .i64 0]) ∧ Below w.heap.size w w' := by
  obtain ⟨p1, p2⟩ := mul_bd a n 10000000000 6 (by omega) (by omega) hn1 hn2
  obtain ⟨p3, p4⟩ := mul_bd b n 10000000000 6 (by omega) (by omega) hn1 hn2
  have q1 : -60000000000 ≤ mn (a * n) (b * n) ∧ mn (a * n) (b * n) ≤ 60000000000 := by unfold mn; split <;> omega
  have q2 : -60000000000 ≤ mx (a * n) (b * n) ∧ mx (a * n) (b * n) ≤ 60000000000 := by unfold mx; split <;> omega
  obtain ⟨q1, q3⟩ := q1
  obtain ⟨q2, q4⟩ := q2
  have HSC := Lib.hid (fun w => scaledW_c a b n (by omega) (by omega) (by omega) (by omega) hn1 hn2 w)
  clear p1 p2 p3 p4
  generalize mn (a * n) (b * n) = x at *
  generalize mx (a * n) (b * n) = y at *
  have i1 : -1000000000000 ≤ a := by omega
  have i2 : b ≤ 1000000000000 := by omega
  have HB := Lib.hid (Below.refl w.heap.size w)
  have HA := Lib.hid (by have h := Blk.new w 79 #[.int .i64 a, .int .i64 b]; (try simp only [World.size_alloc] at h); exact h)
  replace HB := Lib.hid (Bel.alloc HB.out (.cells #[.int .i64 a, .int .i64 b] 79))
  have HR := Lib.hid (by have h := Blk.new (w.alloc (.cells #[.int .i64 a, .int .i64 b] 79)) 79 #[.int .i64 0, .int .i64 0]; (try simp only [World.size_alloc] at h); exact h)
  replace HA := Lib.hid (Blk.alloc (.cells #[.int .i64 0, .int .i64 0] 79) HA.out)
  replace HB := Lib.hid (Bel.alloc HB.out (.cells #[.int .i64 0, .int .i64 0] 79))
  have n1 : -12 ≤ n := by omega
  have n2 : n ≤ 12 := by omega
  go_enter Try.func52, Try.ntmps52
  go_wp2_with (first | (refine wpList_load_blkG 79 _ _ (Blk.step (Bel.ka0 HB.out (by repeat (with_reducible first | exact Below.refl _ _ | refine Bel.alloc ?_ _ | refine Below.drew ?_ | refine Bel.drewN ?_ _))) HA.out) Try.underlying79 (by kernel_rfl) rfl rfl (by rfl) ?_))
  go_at_call 122; refine (IsInterval_I a b (by omega) (by omega) (by omega) _).mono ?_; rintro e w1 ⟨rfl, hb1⟩; have hka := Bel.ka HB.out hb1 (by repeat (with_reducible first | exact Below.refl _ _ | refine Bel.alloc ?_ _ | refine Below.drew ?_ | refine Bel.drewN ?_ _)); (try (replace HA := Lib.hid (Blk.step hb1 (Blk.step hka HA.out)))); (try (replace HR := Lib.hid (Blk.step hb1 (Blk.step hka HR.out)))); replace HB := Lib.hid (Bel.step hb1 (Bel.step hka HB.out)); have hsz1 := hb1.size; have hsy1 := hka.size; (try simp only [World.size_alloc, World.size_drew, World.heap_drewN, World.size_setCell] at hsz1 hsy1); clear hka hb1
  have v1 : inB n (-12) 12 = true := inB_iff.2 ⟨n1, n2⟩
  have v2 : inB 1 1 12 = true := rfl
  go_wp2_with fail
  go_at_call 75; refine (within_c _ _ _ _).mono ?_; rintro e w' ⟨rfl, rfl⟩
  go_wp2_with fail
  go_at_call 75; refine (within_c _ _ _ _).mono ?_; rintro e w' ⟨rfl, rfl⟩
  go_wp2_with (first | (refine wpList_load_blkG 79 _ _ (Blk.step (Bel.ka0 HB.out (by repeat (with_reducible first | exact Below.refl _ _ | refine Bel.alloc ?_ _ | refine Below.drew ?_ | refine Bel.drewN ?_ _))) HA.out) Try.underlying79 (by kernel_rfl) rfl rfl (by rfl) ?_))
  go_at_call 124; refine (HSC.out _).mono ?_; rintro e w4 ⟨rfl, hb4⟩; have hka := Bel.ka HB.out hb4 (by repeat (with_reducible first | exact Below.refl _ _ | refine Bel.alloc ?_ _ | refine Below.drew ?_ | refine Bel.drewN ?_ _)); (try (replace HA := Lib.hid (Blk.step hb4 (Blk.step hka HA.out)))); (try (replace HR := Lib.hid (Blk.step hb4 (Blk.step hka HR.out)))); replace HB := Lib.hid (Bel.step hb4 (Bel.step hka HB.out)); have hsz4 := hb4.size; have hsy4 := hka.size; (try simp only [World.size_alloc, World.size_drew, World.heap_drewN, World.size_setCell] at hsz4 hsy4); clear hka hb4
  go_wp2_with fail
  go_at_call 123; refine (valued_I x y (by omega) (by omega) (by omega) (by omega) _).mono ?_; rintro e w5 ⟨rfl, hb5⟩; have hka := Bel.ka HB.out hb5 (by repeat (with_reducible first | exact Below.refl _ _ | refine Bel.alloc ?_ _ | refine Below.drew ?_ | refine Bel.drewN ?_ _)); (try (replace HA := Lib.hid (Blk.step hb5 (Blk.step hka HA.out)))); (try (replace HR := Lib.hid (Blk.step hb5 (Blk.step hka HR.out)))); replace HB := Lib.hid (Bel.step hb5 (Bel.step hka HB.out)); have hsz5 := hb5.size; have hsy5 := hka.size; (try simp only [World.size_alloc, World.size_drew, World.heap_drewN, World.size_setCell] at hsz5 hsy5); clear hka hb5
  go_wp2_with (first | (refine wpList_store_part 79 _ _ _ 0 _ _ (Blk.step (Bel.ka0 HB.out (by repeat (with_reducible first | exact Below.refl _ _ | refine Bel.alloc ?_ _ | refine Below.drew ?_ | refine Bel.drewN ?_ _))) HR.out) rfl rfl rfl rfl (by rfl) (by kernel_rfl) (by simp [go_sem, Value.cells, Value.oneCell']) (by simp [go_sem, Value.cells]) ?_; intro wS hBS hkb; simp [go_sem, Value.cells, setL] at hBS; have hka := Kp.kab HB.out hkb (by repeat (with_reducible first | exact Below.refl _ _ | refine Bel.alloc ?_ _ | refine Below.drew ?_ | refine Bel.drewN ?_ _)); (try (replace HA := Lib.hid ((Blk.step hka HA.out).kp hkb (by first | omega | (simp; omega))))); replace HB := Lib.hid (Kp.bel hkb (by first | omega | (simp; omega)) (by first | omega | (simp; omega)) (Bel.step hka HB.out)); replace HR := Lib.hid hBS; have hszS := hkb.size_; have hsyS := hka.size; (try simp only [World.size_alloc, World.size_drew, World.heap_drewN, World.size_setCell] at hszS hsyS); clear hBS hka hkb))
  exact bodyPost_ret (results_2 rfl (resF_cell HR.out Try.underlying79 (by kernel_rfl) rfl) (resF_tmp _ rfl)) rfl ⟨rfl, HB.out⟩
theorem SubtractLogs_I (a b c d : Int) (h1 : -200000000000 ≤ a) (h2 : b ≤ 200000000000) (h3 : a ≤ b) (h4 : -200000000000 ≤ c) (h5 : d ≤ 200000000000) (h6 : c ≤ d) (w : World) :
    Calls Try.prog 53 #[.agg #[.int .i64 a, .int .i64 b], .agg #[.int .i64 c, .int .i64 d]] w fun e w' => e = .returned (.tuple #[.agg #[.int .i64 (a - d), .int .i64 (b - c)], .int .i64 0]) ∧ Below w.heap.size w w' := by
  have HB := Lib.hid (Below.refl w.heap.size w)
  have HA := Lib.hid (by have h := Blk.new w 79 #[.int .i64 a, .int .i64 b]; (try simp only [World.size_alloc] at h); exact h)
  replace HB := Lib.hid (Bel.alloc HB.out (.cells #[.int .i64 a, .int .i64 b] 79))
  have HC := Lib.hid (by have h := Blk.new (w.alloc (.cells #[.int .i64 a, .int .i64 b] 79)) 79 #[.int .i64 c, .int .i64 d]; (try simp only [World.size_alloc] at h); exact h)
  replace HA := Lib.hid (Blk.alloc (.cells #[.int .i64 c, .int .i64 d] 79) HA.out)
  replace HB := Lib.hid (Bel.alloc HB.out (.cells #[.int .i64 c, .int .i64 d] 79))
  have HR := Lib.hid (by have h := Blk.new ((w.alloc (.cells #[.int .i64 a, .int .i64 b] 79)).alloc (.cells #[.int .i64 c, .int .i64 d] 79)) 79 #[.int .i64 0, .int .i64 0]; (try simp only [World.size_alloc] at h); exact h)
  replace HA := Lib.hid (Blk.alloc (.cells #[.int .i64 0, .int .i64 0] 79) HA.out)
  replace HC := Lib.hid (Blk.alloc (.cells #[.int .i64 0, .int .i64 0] 79) HC.out)
  replace HB := Lib.hid (Bel.alloc HB.out (.cells #[.int .i64 0, .int .i64 0] 79))
  go_enter Try.func53, Try.ntmps53
  go_wp2_with (first | (refine wpList_load_blkG 79 _ _ (Blk.step (Bel.ka0 HB.out (by repeat (with_reducible first | exact Below.refl _ _ | refine Bel.alloc ?_ _ | refine Below.drew ?_ | refine Bel.drewN ?_ _))) HA.out) Try.underlying79 (by kernel_rfl) rfl rfl (by rfl) ?_) | (refine wpList_load_blkG 79 _ _ (Blk.step (Bel.ka0 HB.out (by repeat (with_reducible first | exact Below.refl _ _ | refine Bel.alloc ?_ _ | refine Below.drew ?_ | refine Bel.drewN ?_ _))) HC.out) Try.underlying79 (by kernel_rfl) rfl rfl (by rfl) ?_))
  go_at_call 122; refine (IsInterval_I a b (by omega) (by omega) (by omega) _).mono ?_; rintro e w1 ⟨rfl, hb1⟩; have hka := Bel.ka HB.out hb1 (by repeat (with_reducible first | exact Below.refl _ _ | refine Bel.alloc ?_ _ | refine Below.drew ?_ | refine Bel.drewN ?_ _)); (try (replace HA := Lib.hid (Blk.step hb1 (Blk.step hka HA.out)))); (try (replace HC := Lib.hid (Blk.step hb1 (Blk.step hka HC.out)))); (try (replace HR := Lib.hid (Blk.step hb1 (Blk.step hka HR.out)))); replace HB := Lib.hid (Bel.step hb1 (Bel.step hka HB.out)); have hsz1 := hb1.size; have hsy1 := hka.size; (try simp only [World.size_alloc, World.size_drew, World.heap_drewN, World.size_setCell] at hsz1 hsy1); clear hka hb1
  go_wp2_with (first | (refine wpList_load_blkG 79 _ _ (Blk.step (Bel.ka0 HB.out (by repeat (with_reducible first | exact Below.refl _ _ | refine Bel.alloc ?_ _ | refine Below.drew ?_ | refine Bel.drewN ?_ _))) HA.out) Try.underlying79 (by kernel_rfl) rfl rfl (by rfl) ?_) | (refine wpList_load_blkG 79 _ _ (Blk.step (Bel.ka0 HB.out (by repeat (with_reducible first | exact Below.refl _ _ | refine Bel.alloc ?_ _ | refine Below.drew ?_ | refine Bel.drewN ?_ _))) HC.out) Try.underlying79 (by kernel_rfl) rfl rfl (by rfl) ?_))
  go_at_call 122; refine (IsInterval_I c d (by omega) (by omega) (by omega) _).mono ?_; rintro e w2 ⟨rfl, hb2⟩; have hka := Bel.ka HB.out hb2 (by repeat (with_reducible first | exact Below.refl _ _ | refine Bel.alloc ?_ _ | refine Below.drew ?_ | refine Bel.drewN ?_ _)); (try (replace HA := Lib.hid (Blk.step hb2 (Blk.step hka HA.out)))); (try (replace HC := Lib.hid (Blk.step hb2 (Blk.step hka HC.out)))); (try (replace HR := Lib.hid (Blk.step hb2 (Blk.step hka HR.out)))); replace HB := Lib.hid (Bel.step hb2 (Bel.step hka HB.out)); have hsz2 := hb2.size; have hsy2 := hka.size; (try simp only [World.size_alloc, World.size_drew, World.heap_drewN, World.size_setCell] at hsz2 hsy2); clear hka hb2
  go_wp2_with (first | (refine wpList_load_blkG 79 _ _ (Blk.step (Bel.ka0 HB.out (by repeat (with_reducible first | exact Below.refl _ _ | refine Bel.alloc ?_ _ | refine Below.drew ?_ | refine Bel.drewN ?_ _))) HA.out) Try.underlying79 (by kernel_rfl) rfl rfl (by rfl) ?_) | (refine wpList_load_blkG 79 _ _ (Blk.step (Bel.ka0 HB.out (by repeat (with_reducible first | exact Below.refl _ _ | refine Bel.alloc ?_ _ | refine Below.drew ?_ | refine Bel.drewN ?_ _))) HC.out) Try.underlying79 (by kernel_rfl) rfl rfl (by rfl) ?_))
  go_at_call 125; refine (difference_c _ _ _ _ (by omega) (by omega) (by omega) (by omega) (by omega) (by omega) (by omega) (by omega) _).mono ?_; rintro e w3 ⟨rfl, hb3⟩; have hka := Bel.ka HB.out hb3 (by repeat (with_reducible first | exact Below.refl _ _ | refine Bel.alloc ?_ _ | refine Below.drew ?_ | refine Bel.drewN ?_ _)); (try (replace HA := Lib.hid (Blk.step hb3 (Blk.step hka HA.out)))); (try (replace HC := Lib.hid (Blk.step hb3 (Blk.step hka HC.out)))); (try (replace HR := Lib.hid (Blk.step hb3 (Blk.step hka HR.out)))); replace HB := Lib.hid (Bel.step hb3 (Bel.step hka HB.out)); have hsz3 := hb3.size; have hsy3 := hka.size; (try simp only [World.size_alloc, World.size_drew, World.heap_drewN, World.size_setCell] at hsz3 hsy3); clear hka hb3
  go_wp2_with fail
  go_at_call 123; refine (valued_I _ _ (by omega) (by omega) (by omega) (by omega) _).mono ?_; rintro e w4 ⟨rfl, hb4⟩; have hka := Bel.ka HB.out hb4 (by repeat (with_reducible first | exact Below.refl _ _ | refine Bel.alloc ?_ _ | refine Below.drew ?_ | refine Bel.drewN ?_ _)); (try (replace HA := Lib.hid (Blk.step hb4 (Blk.step hka HA.out)))); (try (replace HC := Lib.hid (Blk.step hb4 (Blk.step hka HC.out)))); (try (replace HR := Lib.hid (Blk.step hb4 (Blk.step hka HR.out)))); replace HB := Lib.hid (Bel.step hb4 (Bel.step hka HB.out)); have hsz4 := hb4.size; have hsy4 := hka.size; (try simp only [World.size_alloc, World.size_drew, World.heap_drewN, World.size_setCell] at hsz4 hsy4); clear hka hb4
  go_wp2_with (first | (refine wpList_store_part 79 _ _ _ 0 _ _ (Blk.step (Bel.ka0 HB.out (by repeat (with_reducible first | exact Below.refl _ _ | refine Bel.alloc ?_ _ | refine Below.drew ?_ | refine Bel.drewN ?_ _))) HR.out) rfl rfl rfl rfl (by rfl) (by kernel_rfl) (by simp [go_sem, Value.cells, Value.oneCell']) (by simp [go_sem, Value.cells]) ?_; intro wS hBS hkb; simp [go_sem, Value.cells, setL] at hBS; have hka := Kp.kab HB.out hkb (by repeat (with_reducible first | exact Below.refl _ _ | refine Bel.alloc ?_ _ | refine Below.drew ?_ | refine Bel.drewN ?_ _)); (try (replace HA := Lib.hid ((Blk.step hka HA.out).kp hkb (by first | omega | (simp; omega))))); (try (replace HC := Lib.hid ((Blk.step hka HC.out).kp hkb (by first | omega | (simp; omega))))); replace HB := Lib.hid (Kp.bel hkb (by first | omega | (simp; omega)) (by first | omega | (simp; omega)) (Bel.step hka HB.out)); replace HR := Lib.hid hBS; have hszS := hkb.size_; have hsyS := hka.size; (try simp only [World.size_alloc, World.size_drew, World.heap_drewN, World.size_setCell] at hszS hsyS); clear hBS hka hkb))
  exact bodyPost_ret (results_2 rfl (resF_cell HR.out Try.underlying79 (by kernel_rfl) rfl) (resF_tmp _ rfl)) rfl ⟨rfl, HB.out⟩
end Go.Proofs.Ythfphjbaglgacaa
