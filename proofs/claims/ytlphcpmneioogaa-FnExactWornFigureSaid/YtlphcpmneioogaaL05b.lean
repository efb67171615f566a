/- Chapter 5: places on scales. Conditions: as stated at each contract. -/
import Derived.Test.YtlphcpmneioogaaProg
import Derived.Test.YtlphcpmneioogaaBase
import Derived.Test.YtlphcpmneioogaaRw
import Derived.Test.YtlphcpmneioogaaL01
import Derived.Test.YtlphcpmneioogaaCp
import Derived.Test.YtlphcpmneioogaaL18
import Derived.Test.YtlphcpmneioogaaL23
import Derived.Test.YtlphcpmneioogaaL03
import Derived.Test.YtlphcpmneioogaaL04
import Derived.Test.YtlphcpmneioogaaL05
import Derived.WalkKit
import Derived.WalkSpells
import Derived.WalkLawsBesides
import Derived.Lib.Hide
import Derived.Deep.QuietTactic
import Derived.BigQuiet
import Derived.Deep.Draws
import Derived.Deep.RegionHeld3
import Derived.Deep.Cut
namespace Go.Proofs.Ytlphcpmneioogaa
open Go.RowKit
set_option linter.unusedVariables false
set_option linter.unusedSimpArgs false
/-- The place of a figure on a rule. -/
def paL (sc d t n : Int) : Int := Fl (psL sc d t * n) 1048576
def paH (sc d t n : Int) : Int := Cl (psH sc d t * n) 1048576
theorem pa_bd {sc d t n : Int} (h1 : 1000 ≤ d) (h2 : d ≤ 9999) (n1 : 0 ≤ n) (n2 : n ≤ 100000) : (-500000000000 ≤ psL sc d t * n ∧ psL sc d t * n ≤ 500000000000) ∧ (-500000000000 ≤ psH sc d t * n ∧ psH sc d t * n ≤ 500000000000) ∧ (-500000 ≤ paL sc d t n ∧ paL sc d t n ≤ 500000) ∧ -500000 ≤ paH sc d t n ∧ paH sc d t n ≤ 500000 := by
  obtain ⟨a1, a2, a3, a4⟩ := ps_bd (sc := sc) (t := t) h1 h2
  have m1 := mul_bd (psL sc d t) n 5000000 100000 a1 a2 (by omega) n2
  have m2 := mul_bd (psH sc d t) n 5000000 100000 a3 a4 (by omega) n2
  refine ⟨m1, m2, ?_, ?_⟩
  · unfold paL; rw [Fl_pos _ _ (by omega)]; omega
  · unfold paH; rw [Cl_pos _ _ (by omega)]; omega
theorem l05Place_c (sc d t n : Int) (h1 : 1000 ≤ d) (h2 : d ≤ 9999) (n1 : 0 ≤ n) (n2 : n ≤ 100000) (w : World) :
    Calls Try.prog 25 #[.agg #[.int .i64 (psL sc d t), .int .i64 (psH sc d t)], .int .i64 n] w fun r w' => r = .returned (.agg #[.int .i64 (paL sc d t n), .int .i64 (paH sc d t n)]) ∧ Below w.heap.size w w' := by
  obtain ⟨⟨m1, m2⟩, ⟨m3, m4⟩, _, _⟩ := pa_bd (sc := sc) (t := t) h1 h2 n1 n2
  have HV := Lib.hid (show paL sc d t n = Fl (psL sc d t * n) 1048576 ∧ paH sc d t n = Cl (psH sc d t * n) 1048576 from ⟨rfl, rfl⟩)
  obtain ⟨X, hX⟩ : ∃ X, X = psL sc d t * n := ⟨_, rfl⟩
  obtain ⟨Y, hY⟩ : ∃ Y, Y = psH sc d t * n := ⟨_, rfl⟩
  have e1 : IntKind.i64.wrap (psL sc d t * n) = X := by rw [hX]; exact wr64 (by omega) (by omega)
  have e2 : IntKind.i64.wrap (psH sc d t * n) = Y := by rw [hY]; exact wr64 (by omega) (by omega)
  rw [← hX] at m1 m2 HV
  rw [← hY] at m3 m4 HV
  clear hX hY h1 h2 n1 n2
  generalize psL sc d t = x at *
  generalize psH sc d t = y at *
  go_enter Try.func25, Try.ntmps25
  go_wp2
  go_region_held3 (fun w' => w'.cell? ⟨w.heap.size, 0, none⟩ = some (.int .i64 x) ∧ w'.cell? ⟨w.heap.size, 1, none⟩ = some (.int .i64 y)) (simp [go_sem, *])
      (first | (go_at_call 13; refine (l01Floor_c _ _ (by omega) (by omega) (by omega) (by omega) (by omega) _).mono ?_; rintro e w' ⟨rfl, rfl⟩) | (go_at_call 39; refine (l01Ceil_c _ _ (by omega) (by omega) (by omega) (by omega) (by omega) _).mono ?_; rintro e w' ⟨rfl, rfl⟩))
  all_goals
    go_wp2
    refine bodyPost_ret (v := .agg #[.int .i64 (Fl X 1048576), .int .i64 (Cl Y 1048576)]) (by simp [results, Try.results25, go_sem, *]) rfl ⟨by rw [HV.out.1, HV.out.2], by repeat (with_reducible first | exact Below.refl _ _ | assumption | refine Bel.alloc ?_ _ | refine Bel.step (by assumption) ?_ | refine Below.drew ?_ | refine Bel.drewN ?_ _ | refine Below.setCell ?_ (by first | exact Nat.le_refl _ | omega | (simp; done) | (simp; omega)) _)⟩
set_option maxHeartbeats 2000000 in
theorem place_c (sc d t n : Int) (h : okF d t = true) (n1 : 0 ≤ n) (n2 : n ≤ 100000) (w : World) :
    Calls Try.prog 18 #[.int .i64 sc, .agg #[.int .i64 d, .int .i64 t], .int .i64 n] w fun r w' => r = .returned (.agg #[.int .i64 (paL sc d t n), .int .i64 (paH sc d t n)]) ∧ Below w.heap.size w w' := by
  obtain ⟨d1, d2, t1, t2⟩ := okF_iff h
  obtain ⟨⟨m1, m2⟩, ⟨m3, m4⟩, _, _⟩ := pa_bd (sc := sc) (t := t) d1 d2 n1 n2
  have HV := Lib.hid (show paL sc d t n = Fl (psL sc d t * n) 1048576 ∧ paH sc d t n = Cl (psH sc d t * n) 1048576 from ⟨rfl, rfl⟩)
  obtain ⟨X, hX⟩ : ∃ X, X = psL sc d t * n := ⟨_, rfl⟩
  obtain ⟨Y, hY⟩ : ∃ Y, Y = psH sc d t * n := ⟨_, rfl⟩
  have e1 : IntKind.i64.wrap (psL sc d t * n) = X := by rw [hX]; exact wr64 (by omega) (by omega)
  have e2 : IntKind.i64.wrap (psH sc d t * n) = Y := by rw [hY]; exact wr64 (by omega) (by omega)
  rw [← hX] at m1 m2 HV
  rw [← hY] at m3 m4 HV
  clear hX hY n1 n2
  go_enter Try.func18, Try.ntmps18
  go_wp2_with fail
  go_at_call 33; refine (position_c sc d t h _).mono ?_; rintro e w1 ⟨rfl, hb1⟩; obtain ⟨hc1, hf1, hz1⟩ := bel hb1; (try simp only [World.size_drew, World.cell?_drew, World.frozen?_drew] at hc1 hf1 hz1); (try simp only [World.heap_drewN, World.cell?_drewN, World.frozen?_drewN] at hc1 hf1 hz1); (try have hl1 : w.heap.size < w1.heap.size := by (have hq := hb1.size; (try simp at hq); omega)); (try have hm1 : w.heap.size + 1 < w1.heap.size := by (have hq := hb1.size; (try simp at hq); omega)); (try have hn1 : w.heap.size + 1 + 1 < w1.heap.size := by (have hq := hb1.size; (try simp at hq); omega)); (try have hp1 : b < w1.heap.size := by (have hq := hb1.size; (try simp at hq); omega)); (try have ho1 : b' < w1.heap.size := by (have hq := hb1.size; (try simp at hq); omega))
  clear h
  generalize psL sc d t = x at *
  generalize psH sc d t = y at *
  go_wp2
  go_region_held3 (fun w' => w'.cell? ⟨w1.heap.size, 0, none⟩ = some (.int .i64 x) ∧ w'.cell? ⟨w1.heap.size, 1, none⟩ = some (.int .i64 y)) (simp [go_sem, *])
      (first | (go_at_call 20; refine (down_c _ _ (by omega) (by omega) (by omega) (by omega) (by omega) _).mono ?_; rintro e w' ⟨rfl, rfl⟩) | (go_at_call 34; refine (up_c _ _ (by omega) (by omega) (by omega) (by omega) (by omega) _).mono ?_; rintro e w' ⟨rfl, rfl⟩))
  all_goals
    go_wp2
    refine bodyPost_ret (v := .agg #[.int .i64 (Fl X 1048576), .int .i64 (Cl Y 1048576)]) (by simp [results, Try.results18, go_sem, *]) rfl ⟨by rw [HV.out.1, HV.out.2], by repeat (with_reducible first | exact Below.refl _ _ | assumption | refine Bel.alloc ?_ _ | refine Bel.step (by assumption) ?_ | refine Below.drew ?_ | refine Bel.drewN ?_ _ | refine Below.setCell ?_ (by first | exact Nat.le_refl _ | omega | (simp; done) | (simp; omega)) _)⟩
end Go.Proofs.Ytlphcpmneioogaa
