/- Chapter 5: positions and places on scales. Conditions: as stated at each contract. -/
import Derived.Test.YtlphcpmneioogaaProg
import Derived.Test.YtlphcpmneioogaaBase
import Derived.Test.YtlphcpmneioogaaRw
import Derived.Test.YtlphcpmneioogaaL01
import Derived.Test.YtlphcpmneioogaaCp
import Derived.Test.YtlphcpmneioogaaL18
import Derived.Test.YtlphcpmneioogaaL23
import Derived.Test.YtlphcpmneioogaaL03
import Derived.Test.YtlphcpmneioogaaL04
import Derived.WalkKit
import Derived.WalkSpells
import Derived.WalkLawsBesides
import Derived.Lib.Hide
import Derived.Deep.QuietTactic
import Derived.BigQuiet
import Derived.Deep.Draws
import Derived.Deep.RegionHeld3
import Derived.Deep.Cut
namespace Go.Proofs.Ytlphcpmneioogaa
open Go.RowKit
set_option linter.unusedVariables false
set_option linter.unusedSimpArgs false
theorem l01Mod2_c (a : Int) (h1 : -1000000 ≤ a) (h2 : a ≤ 1000000) (w : World) :
    Calls Try.prog 41 #[.int .i64 a, .int .i64 2] w fun e w' => e = .returned (.int .i64 (a % 2)) ∧ w = w' := by
  obtain ⟨f0, f1, f2, f3⟩ := tmod_facts a 2 (by omega)
  have b1 : -2 < a.tmod 2 := by omega
  have b2 : a.tmod 2 < 2 := by omega
  have e1 : (a.tmod 2 + 2) % 2 = a % 2 := by
    have : a.tmod 2 % 2 = a % 2 := by omega
    omega
  have HV := Lib.hid e1
  clear f0 f1 f2 f3 e1
  go_enter Try.func41, Try.ntmps41
  go_wp2
  go_ret
  exact ⟨ret_int HV.out, rfl⟩
theorem modulo2_c (a : Int) (h1 : -1000000 ≤ a) (h2 : a ≤ 1000000) (w : World) :
    Calls Try.prog 49 #[.int .i64 a, .int .i64 2] w fun e w' => e = .returned (.int .i64 (a % 2)) ∧ w = w' := by
  have HV := Lib.hid (show a - 2 * Fl a 2 = a % 2 by rw [Fl_pos _ _ (by omega)]; omega)
  obtain ⟨b1, b2⟩ := Fl_bd a 2 1000000 h1 h2
  go_enter Try.func49, Try.ntmps49
  go_wp2_with (first | (go_at_call 20; refine (down_c _ _ (by omega) (by omega) (by omega) (by omega) (by omega) _).mono ?_; rintro e w' ⟨rfl, rfl⟩))
  go_ret
  exact ⟨ret_int HV.out, rfl⟩
theorem l01Mod3_c (a : Int) (h1 : -1000000 ≤ a) (h2 : a ≤ 1000000) (w : World) :
    Calls Try.prog 41 #[.int .i64 a, .int .i64 3] w fun e w' => e = .returned (.int .i64 (a % 3)) ∧ w = w' := by
  obtain ⟨f0, f1, f2, f3⟩ := tmod_facts a 3 (by omega)
  have b1 : -3 < a.tmod 3 := by omega
  have b2 : a.tmod 3 < 3 := by omega
  have e1 : (a.tmod 3 + 3) % 3 = a % 3 := by
    have : a.tmod 3 % 3 = a % 3 := by omega
    omega
  have HV := Lib.hid e1
  clear f0 f1 f2 f3 e1
  go_enter Try.func41, Try.ntmps41
  go_wp2
  go_ret
  exact ⟨ret_int HV.out, rfl⟩
theorem modulo3_c (a : Int) (h1 : -1000000 ≤ a) (h2 : a ≤ 1000000) (w : World) :
    Calls Try.prog 49 #[.int .i64 a, .int .i64 3] w fun e w' => e = .returned (.int .i64 (a % 3)) ∧ w = w' := by
  have HV := Lib.hid (show a - 3 * Fl a 3 = a % 3 by rw [Fl_pos _ _ (by omega)]; omega)
  obtain ⟨b1, b2⟩ := Fl_bd a 3 1000000 h1 h2
  go_enter Try.func49, Try.ntmps49
  go_wp2_with (first | (go_at_call 20; refine (down_c _ _ (by omega) (by omega) (by omega) (by omega) (by omega) _).mono ?_; rintro e w' ⟨rfl, rfl⟩))
  go_ret
  exact ⟨ret_int HV.out, rfl⟩
theorem l03Scale_d (a b d : Int) (hab : a < b) (ha1 : -100000000 ≤ a) (ha2 : a ≤ 100000000) (hb1 : -100000000 ≤ b) (hb2 : b ≤ 100000000) (hd1 : 1 ≤ d) (hd2 : d ≤ 12) (w : World) :
    Calls Try.prog 42 #[.agg #[.int .i64 a, .int .i64 b], .int .i64 1, .int .i64 d] w fun r w' => r = .returned (.agg #[.int .i64 (Fl a d), .int .i64 (Cl b d)]) ∧ Below w.heap.size w w' := by
  go_enter Try.func42, Try.ntmps42
  go_wp2
  go_quiet (fail)
  go_wp2_with (first | (go_at_call 13; refine (l01Floor_c _ _ (by omega) (by omega) (by omega) (by omega) (by omega) _).mono ?_; rintro e w' ⟨rfl, rfl⟩) | (go_at_call 39; refine (l01Ceil_c _ _ (by omega) (by omega) (by omega) (by omega) (by omega) _).mono ?_; rintro e w' ⟨rfl, rfl⟩))
  all_goals
    refine bodyPost_ret (v := .agg #[.int .i64 (Fl a d), .int .i64 (Cl b d)]) (by simp [results, Try.results42, go_sem, *]) rfl ⟨rfl, by repeat (with_reducible first | exact Below.refl _ _ | assumption | refine Bel.alloc ?_ _ | refine Bel.step (by assumption) ?_ | refine Below.drew ?_ | refine Bel.drewN ?_ _ | refine Below.setCell ?_ (by first | exact Nat.le_refl _ | omega | (simp; done) | (simp; omega)) _)⟩
theorem scaled_d (a b d : Int) (hab : a < b) (ha1 : -100000000 ≤ a) (ha2 : a ≤ 100000000) (hb1 : -100000000 ≤ b) (hb2 : b ≤ 100000000) (hd1 : 1 ≤ d) (hd2 : d ≤ 12) (w : World) :
    Calls Try.prog 48 #[.agg #[.int .i64 a, .int .i64 b], .int .i64 1, .int .i64 d] w fun r w' => r = .returned (.agg #[.int .i64 (Fl a d), .int .i64 (Cl b d)]) ∧ Below w.heap.size w w' := by
  go_enter Try.func48, Try.ntmps48
  go_wp2
  go_quiet (fail)
  go_wp2_with (first | (go_at_call 20; refine (down_c _ _ (by omega) (by omega) (by omega) (by omega) (by omega) _).mono ?_; rintro e w' ⟨rfl, rfl⟩) | (go_at_call 34; refine (up_c _ _ (by omega) (by omega) (by omega) (by omega) (by omega) _).mono ?_; rintro e w' ⟨rfl, rfl⟩))
  all_goals
    refine bodyPost_ret (v := .agg #[.int .i64 (Fl a d), .int .i64 (Cl b d)]) (by simp [results, Try.results48, go_sem, *]) rfl ⟨rfl, by repeat (with_reducible first | exact Below.refl _ _ | assumption | refine Bel.alloc ?_ _ | refine Bel.step (by assumption) ?_ | refine Below.drew ?_ | refine Bel.drewN ?_ _ | refine Below.setCell ?_ (by first | exact Nat.le_refl _ | omega | (simp; done) | (simp; omega)) _)⟩
theorem lg5_lt {d : Int} (h1 : 1000 ≤ d) (h2 : d ≤ 9999) : lgLo (d * 100000) < lgHi (d * 100000) := by
  have h := fg_lt (tn := 0) h1 h2
  unfold fgLo fgHi at h
  omega
/-- The position of a figure. -/
def psL (sc d t : Int) : Int :=
  if sc = 1 then Fl (lgLo (d * 100000) + 1048576 * (t % 2)) 2
  else if sc = 2 then Fl (lgLo (d * 100000) + 1048576 * (t % 3)) 3
  else if sc = 3 then 1048576 - lgHi (d * 100000)
  else if sc = 4 then (if lgLo (d * 100000) - lgHi 314200000 < 0 then lgLo (d * 100000) - lgHi 314200000 + 1048576 else lgLo (d * 100000) - lgHi 314200000)
  else if sc = 5 then Fl ((d - 1000) * 1048576) 9000
  else lgLo (d * 100000)
def psH (sc d t : Int) : Int :=
  if sc = 1 then Cl (lgHi (d * 100000) + 1048576 * (t % 2)) 2
  else if sc = 2 then Cl (lgHi (d * 100000) + 1048576 * (t % 3)) 3
  else if sc = 3 then 1048576 - lgLo (d * 100000)
  else if sc = 4 then (if lgLo (d * 100000) - lgHi 314200000 < 0 then lgHi (d * 100000) - lgLo 314200000 + 1048576 else lgHi (d * 100000) - lgLo 314200000)
  else if sc = 5 then Cl ((d - 1000) * 1048576) 9000
  else lgHi (d * 100000)
theorem ps_bd {sc d t : Int} (h1 : 1000 ≤ d) (h2 : d ≤ 9999) : -5000000 ≤ psL sc d t ∧ psL sc d t ≤ 5000000 ∧ -5000000 ≤ psH sc d t ∧ psH sc d t ≤ 5000000 := by
  obtain ⟨b1, b2⟩ := lgLo_bd (d * 100000) (by omega) (by omega)
  obtain ⟨b3, b4⟩ := lgHi_bd (d * 100000) (by omega) (by omega)
  obtain ⟨c1, c2⟩ := lgLo_bd 314200000 (by omega) (by omega)
  obtain ⟨c3, c4⟩ := lgHi_bd 314200000 (by omega) (by omega)
  have a1 := Fl_bd (lgLo (d * 100000) + 1048576 * (t % 2)) 2 5000000 (by omega) (by omega)
  have a2 := Fl_bd (lgLo (d * 100000) + 1048576 * (t % 3)) 3 5000000 (by omega) (by omega)
  have a3 := Cl_bd (lgHi (d * 100000) + 1048576 * (t % 2)) 2 5000000 (by omega) (by omega)
  have a4 := Cl_bd (lgHi (d * 100000) + 1048576 * (t % 3)) 3 5000000 (by omega) (by omega)
  have a5 : 0 ≤ Fl ((d - 1000) * 1048576) 9000 ∧ Fl ((d - 1000) * 1048576) 9000 ≤ 5000000 := by rw [Fl_pos _ _ (by omega)]; omega
  have a6 : 0 ≤ Cl ((d - 1000) * 1048576) 9000 ∧ Cl ((d - 1000) * 1048576) 9000 ≤ 5000000 := by rw [Cl_pos _ _ (by omega)]; omega
  unfold psL psH
  generalize lgLo (d * 100000) = x at *
  generalize lgHi (d * 100000) = y at *
  generalize lgLo 314200000 = p at *
  generalize lgHi 314200000 = q at *
  constructor
  · split <;> (try split) <;> (try split) <;> (try split) <;> (try split) <;> (try split) <;> omega
  constructor
  · split <;> (try split) <;> (try split) <;> (try split) <;> (try split) <;> (try split) <;> omega
  constructor
  · split <;> (try split) <;> (try split) <;> (try split) <;> (try split) <;> (try split) <;> omega
  · split <;> (try split) <;> (try split) <;> (try split) <;> (try split) <;> (try split) <;> omega
set_option maxRecDepth 20000 in
set_option maxHeartbeats 4000000 in
theorem l05Position_c (sc d t : Int) (h : okF d t = true) (w : World) :
    Calls Try.prog 26 #[.int .i64 sc, .agg #[.int .i64 d, .int .i64 t]] w fun r w' => r = .returned (.agg #[.int .i64 (psL sc d t), .int .i64 (psH sc d t)]) ∧ Below w.heap.size w w' := by
  obtain ⟨d1, d2, t1, t2⟩ := okF_iff h
  obtain ⟨b1, b2⟩ := lgLo_bd (d * 100000) (by omega) (by omega)
  obtain ⟨b3, b4⟩ := lgHi_bd (d * 100000) (by omega) (by omega)
  have hlt := lg5_lt d1 d2
  clear h
  by_cases s1 : sc = 1
  · subst s1
    have HV := Lib.hid (show psL 1 d t = Fl (lgLo (d * 100000) + 1048576 * (t % 2)) 2 ∧ psH 1 d t = Cl (lgHi (d * 100000) + 1048576 * (t % 2)) 2 by constructor <;> simp [psL, psH])
    have m1 : 0 ≤ t % 2 := by omega
    have m2 : t % 2 < 2 := by omega
    go_enter Try.func26, Try.ntmps26
    go_wp2_with fail
    go_at_call 40; refine (l03Log_c _ (by omega) (by omega) _).mono ?_; rintro e w1 ⟨rfl, hb1⟩; obtain ⟨hc1, hf1, hz1⟩ := bel hb1; (try simp only [World.size_drew, World.cell?_drew, World.frozen?_drew] at hc1 hf1 hz1); (try simp only [World.heap_drewN, World.cell?_drewN, World.frozen?_drewN] at hc1 hf1 hz1); (try have hl1 : w.heap.size < w1.heap.size := by (have hq := hb1.size; (try simp at hq); omega)); (try have hm1 : w.heap.size + 1 < w1.heap.size := by (have hq := hb1.size; (try simp at hq); omega)); (try have hn1 : w.heap.size + 1 + 1 < w1.heap.size := by (have hq := hb1.size; (try simp at hq); omega)); (try have hp1 : b < w1.heap.size := by (have hq := hb1.size; (try simp at hq); omega)); (try have ho1 : b' < w1.heap.size := by (have hq := hb1.size; (try simp at hq); omega))
    generalize lgLo (d * 100000) = x at *
    generalize lgHi (d * 100000) = y at *
    go_wp2_with fail
    go_at_call 41; refine (l01Mod2_c t (by omega) (by omega) _).mono ?_; rintro e w' ⟨rfl, rfl⟩
    generalize t % 2 = m at *
    go_wp2_with fail
    go_at_call 42; refine (l03Scale_d _ _ 2 (by omega) (by omega) (by omega) (by omega) (by omega) (by omega) (by omega) _).mono ?_; rintro e w3 ⟨rfl, hb3⟩; obtain ⟨hc3, hf3, hz3⟩ := bel hb3; (try simp only [World.size_drew, World.cell?_drew, World.frozen?_drew] at hc3 hf3 hz3); (try simp only [World.heap_drewN, World.cell?_drewN, World.frozen?_drewN] at hc3 hf3 hz3); (try have hl3 : w.heap.size < w3.heap.size := by (have hq := hb3.size; (try simp at hq); omega)); (try have hm3 : w.heap.size + 1 < w3.heap.size := by (have hq := hb3.size; (try simp at hq); omega)); (try have hn3 : w.heap.size + 1 + 1 < w3.heap.size := by (have hq := hb3.size; (try simp at hq); omega)); (try have hp3 : b < w3.heap.size := by (have hq := hb3.size; (try simp at hq); omega)); (try have ho3 : b' < w3.heap.size := by (have hq := hb3.size; (try simp at hq); omega))
    go_wp2
    refine bodyPost_ret (v := .agg #[.int .i64 (Fl (x + 1048576 * m) 2), .int .i64 (Cl (y + 1048576 * m) 2)]) (by simp [results, Try.results26, go_sem, *]) rfl ⟨by rw [HV.out.1, HV.out.2], by repeat (with_reducible first | exact Below.refl _ _ | assumption | refine Bel.alloc ?_ _ | refine Bel.step (by assumption) ?_ | refine Below.drew ?_ | refine Bel.drewN ?_ _ | refine Below.setCell ?_ (by first | exact Nat.le_refl _ | omega | (simp; done) | (simp; omega)) _)⟩
  by_cases s2 : sc = 2
  · subst s2
    have HV := Lib.hid (show psL 2 d t = Fl (lgLo (d * 100000) + 1048576 * (t % 3)) 3 ∧ psH 2 d t = Cl (lgHi (d * 100000) + 1048576 * (t % 3)) 3 by constructor <;> simp [psL, psH])
    have m1 : 0 ≤ t % 3 := by omega
    have m2 : t % 3 < 3 := by omega
    go_enter Try.func26, Try.ntmps26
    go_wp2_with fail
    go_at_call 40; refine (l03Log_c _ (by omega) (by omega) _).mono ?_; rintro e w1 ⟨rfl, hb1⟩; obtain ⟨hc1, hf1, hz1⟩ := bel hb1; (try simp only [World.size_drew, World.cell?_drew, World.frozen?_drew] at hc1 hf1 hz1); (try simp only [World.heap_drewN, World.cell?_drewN, World.frozen?_drewN] at hc1 hf1 hz1); (try have hl1 : w.heap.size < w1.heap.size := by (have hq := hb1.size; (try simp at hq); omega)); (try have hm1 : w.heap.size + 1 < w1.heap.size := by (have hq := hb1.size; (try simp at hq); omega)); (try have hn1 : w.heap.size + 1 + 1 < w1.heap.size := by (have hq := hb1.size; (try simp at hq); omega)); (try have hp1 : b < w1.heap.size := by (have hq := hb1.size; (try simp at hq); omega)); (try have ho1 : b' < w1.heap.size := by (have hq := hb1.size; (try simp at hq); omega))
    generalize lgLo (d * 100000) = x at *
    generalize lgHi (d * 100000) = y at *
    go_wp2_with fail
    go_at_call 41; refine (l01Mod3_c t (by omega) (by omega) _).mono ?_; rintro e w' ⟨rfl, rfl⟩
    generalize t % 3 = m at *
    go_wp2_with fail
    go_at_call 42; refine (l03Scale_d _ _ 3 (by omega) (by omega) (by omega) (by omega) (by omega) (by omega) (by omega) _).mono ?_; rintro e w3 ⟨rfl, hb3⟩; obtain ⟨hc3, hf3, hz3⟩ := bel hb3; (try simp only [World.size_drew, World.cell?_drew, World.frozen?_drew] at hc3 hf3 hz3); (try simp only [World.heap_drewN, World.cell?_drewN, World.frozen?_drewN] at hc3 hf3 hz3); (try have hl3 : w.heap.size < w3.heap.size := by (have hq := hb3.size; (try simp at hq); omega)); (try have hm3 : w.heap.size + 1 < w3.heap.size := by (have hq := hb3.size; (try simp at hq); omega)); (try have hn3 : w.heap.size + 1 + 1 < w3.heap.size := by (have hq := hb3.size; (try simp at hq); omega)); (try have hp3 : b < w3.heap.size := by (have hq := hb3.size; (try simp at hq); omega)); (try have ho3 : b' < w3.heap.size := by (have hq := hb3.size; (try simp at hq); omega))
    go_wp2
    refine bodyPost_ret (v := .agg #[.int .i64 (Fl (x + 1048576 * m) 3), .int .i64 (Cl (y + 1048576 * m) 3)]) (by simp [results, Try.results26, go_sem, *]) rfl ⟨by rw [HV.out.1, HV.out.2], by repeat (with_reducible first | exact Below.refl _ _ | assumption | refine Bel.alloc ?_ _ | refine Bel.step (by assumption) ?_ | refine Below.drew ?_ | refine Bel.drewN ?_ _ | refine Below.setCell ?_ (by first | exact Nat.le_refl _ | omega | (simp; done) | (simp; omega)) _)⟩
  by_cases s3 : sc = 3
  · subst s3
    have HV := Lib.hid (show psL 3 d t = 1048576 - lgHi (d * 100000) ∧ psH 3 d t = 1048576 - lgLo (d * 100000) by constructor <;> simp [psL, psH])
    go_enter Try.func26, Try.ntmps26
    go_wp2_with fail
    go_at_call 40; refine (l03Log_c _ (by omega) (by omega) _).mono ?_; rintro e w1 ⟨rfl, hb1⟩; obtain ⟨hc1, hf1, hz1⟩ := bel hb1; (try simp only [World.size_drew, World.cell?_drew, World.frozen?_drew] at hc1 hf1 hz1); (try simp only [World.heap_drewN, World.cell?_drewN, World.frozen?_drewN] at hc1 hf1 hz1); (try have hl1 : w.heap.size < w1.heap.size := by (have hq := hb1.size; (try simp at hq); omega)); (try have hm1 : w.heap.size + 1 < w1.heap.size := by (have hq := hb1.size; (try simp at hq); omega)); (try have hn1 : w.heap.size + 1 + 1 < w1.heap.size := by (have hq := hb1.size; (try simp at hq); omega)); (try have hp1 : b < w1.heap.size := by (have hq := hb1.size; (try simp at hq); omega)); (try have ho1 : b' < w1.heap.size := by (have hq := hb1.size; (try simp at hq); omega))
    generalize lgLo (d * 100000) = x at *
    generalize lgHi (d * 100000) = y at *
    go_wp2
    refine bodyPost_ret (v := .agg #[.int .i64 (1048576 - y), .int .i64 (1048576 - x)]) (by simp [results, Try.results26, go_sem, *]) rfl ⟨by rw [HV.out.1, HV.out.2], by repeat (with_reducible first | exact Below.refl _ _ | assumption | refine Bel.alloc ?_ _ | refine Bel.step (by assumption) ?_ | refine Below.drew ?_ | refine Bel.drewN ?_ _ | refine Below.setCell ?_ (by first | exact Nat.le_refl _ | omega | (simp; done) | (simp; omega)) _)⟩
  by_cases s4 : sc = 4
  · subst s4
    obtain ⟨c1, c2⟩ := lgLo_bd 314200000 (by omega) (by omega)
    obtain ⟨c3, c4⟩ := lgHi_bd 314200000 (by omega) (by omega)
    have HV1 := Lib.hid (fun hn : lgLo (d * 100000) - lgHi 314200000 < 0 => show psL 4 d t = lgLo (d * 100000) - lgHi 314200000 + 1048576 ∧ psH 4 d t = lgHi (d * 100000) - lgLo 314200000 + 1048576 by constructor <;> simp [psL, psH, hn])
    have HV2 := Lib.hid (fun hn : ¬ lgLo (d * 100000) - lgHi 314200000 < 0 => show psL 4 d t = lgLo (d * 100000) - lgHi 314200000 ∧ psH 4 d t = lgHi (d * 100000) - lgLo 314200000 by constructor <;> simp [psL, psH, hn])
    go_enter Try.func26, Try.ntmps26
    go_wp2_with fail
    go_at_call 40; refine (l03Log_c _ (by omega) (by omega) _).mono ?_; rintro e w1 ⟨rfl, hb1⟩; obtain ⟨hc1, hf1, hz1⟩ := bel hb1; (try simp only [World.size_drew, World.cell?_drew, World.frozen?_drew] at hc1 hf1 hz1); (try simp only [World.heap_drewN, World.cell?_drewN, World.frozen?_drewN] at hc1 hf1 hz1); (try have hl1 : w.heap.size < w1.heap.size := by (have hq := hb1.size; (try simp at hq); omega)); (try have hm1 : w.heap.size + 1 < w1.heap.size := by (have hq := hb1.size; (try simp at hq); omega)); (try have hn1 : w.heap.size + 1 + 1 < w1.heap.size := by (have hq := hb1.size; (try simp at hq); omega)); (try have hp1 : b < w1.heap.size := by (have hq := hb1.size; (try simp at hq); omega)); (try have ho1 : b' < w1.heap.size := by (have hq := hb1.size; (try simp at hq); omega))
    generalize lgLo (d * 100000) = x at *
    generalize lgHi (d * 100000) = y at *
-- begin S4
    go_upto_region 12 with (fail)
    have HL : Blk (w1.alloc (.cells #[.int .i64 x, .int .i64 y] 37)) w1.heap.size 37 #[.int .i64 x, .int .i64 y] := Blk.new _ _ _
    have HR : Blk (w1.alloc (.cells #[.int .i64 x, .int .i64 y] 37)) (w.heap.size + 1) 37 #[.int .i64 0, .int .i64 0] := Blk.alloc _ (Blk.step hb1 (by have h := Blk.new (w.alloc (.cells #[.int .i64 d, .int .i64 t] 26)) 37 #[.int .i64 0, .int .i64 0]; simp only [World.size_alloc] at h; exact h))
    have hbel : Below w.heap.size w (w1.alloc (.cells #[.int .i64 x, .int .i64 y] 37)) := by repeat (with_reducible first | exact Below.refl _ _ | assumption | refine Bel.alloc ?_ _ | refine Bel.step (by assumption) ?_ | refine Below.drew ?_ | refine Bel.drewN ?_ _ | refine Below.setCell ?_ (by first | exact Nat.le_refl _ | omega | (simp; done) | (simp; omega)) _)
    clear hc1 hf1 hz1 hb1
    replace HL := HL.drew
    replace HR := HR.drew
    replace hbel := Below.drew hbel
    refine wp_region_held_drew (S := fun W => Blk W w1.heap.size 37 #[.int .i64 x, .int .i64 y] ∧ True) (by kernel_rfl) (⟨HL, trivial⟩) (fun hHeld => ?_)
    generalize (w1.alloc (.cells #[.int .i64 x, .int .i64 y] 37)).drew = V at HL HR hbel hHeld ⊢
    refine wpAnyH_take (i := 0) (v := .agg #[.int .i64 x, .int .i64 y]) rfl (by kernel_rfl) (by kernel_rfl) (by kernel_rfl) (fun _ _ _ h => h) (yieldsIf_load_blk 37 _ (w1.heap.size) (fun _ h => h.1) Try.underlying37 (by kernel_rfl) (by rfl) rfl rfl) hHeld ?_
    try simp only [Act.put, List.setIfInBounds_toArray, List.set_cons_zero, List.set_cons_succ]
    refine wpAnyH_ready (rs := [1, 3]) (by kernel_rfl) (by simp) ?_
    refine AllReadyH.cons rfl (fun K hK => ?_) (AllReadyH.cons rfl (fun K hK => ?_) (AllReadyH.nil))
    · skip
      go_simp
      go_at_call 40; refine (l03Log_c 314200000 (by omega) (by omega) _).mono ?_; rintro e w2 ⟨rfl, hb2⟩
      generalize lgLo 314200000 = p at *
      generalize lgHi 314200000 = q at *
      replace HL := Blk.step hb2 HL
      replace HR := Blk.step hb2 HR
      replace hbel := Bel.step hb2 hbel
      clear hb2
      refine hK.out _ _ (⟨HL, trivial⟩) (fun hHeld => ?_)
      clear hK K
      try simp only [Act.put, List.setIfInBounds_toArray, List.set_cons_zero, List.set_cons_succ]
      refine wpAnyH_ready (rs := [2, 3]) (by kernel_rfl) (by simp) ?_
      refine AllReadyH.cons rfl (fun K hK => ?_) (AllReadyH.cons rfl (fun K hK => ?_) (AllReadyH.nil))
      · skip
        go_simp
        go_at_call 43; refine (l03Sub_c x y p q (by omega) (by omega) (by omega) (by omega) (by omega) (by omega) (by omega) (by omega) _).mono ?_; rintro e w3 ⟨rfl, hb3⟩
        replace HL := Blk.step hb3 HL
        replace HR := Blk.step hb3 HR
        replace hbel := Bel.step hb3 hbel
        clear hb3
        refine hK.out _ _ (⟨HL, trivial⟩) (fun hHeld => ?_)
        clear hK K
        try simp only [Act.put, List.setIfInBounds_toArray, List.set_cons_zero, List.set_cons_succ]
        refine wpAnyH_ready (rs := [3]) (by kernel_rfl) (by simp) ?_
        refine AllReadyH.cons rfl (fun K hK => ?_) (AllReadyH.nil)
        go_simp
        refine hK.out _ _ (⟨Blk.alloc _ HL, trivial⟩) (fun hHeld => ?_)
        clear hK K
        try simp only [Act.put, List.setIfInBounds_toArray, List.set_cons_zero, List.set_cons_succ]
        refine wpAnyH_ready (rs := [4]) (by kernel_rfl) (by simp) ?_
        refine AllReadyH.cons rfl (fun K hK => ?_) AllReadyH.nil
        go_simp
        refine hK.out _ _ (⟨Blk.alloc _ HL, trivial⟩) (fun hHeld => ?_)
        clear hK K
        try simp only [Act.put, List.setIfInBounds_toArray, List.set_cons_zero, List.set_cons_succ]
        refine wpAnyH_done (by kernel_rfl) ?_ _
        have H8 := Blk.new w3 37 #[.int .i64 (x - q), .int .i64 (y - p)]
        have hg8 : w1.heap.size < w3.heap.size := HL.lt
        replace HL := Blk.alloc (.cells #[.int .i64 (x - q), .int .i64 (y - p)] 37) HL
        replace HR := Blk.alloc (.cells #[.int .i64 (x - q), .int .i64 (y - p)] 37) HR
        replace hbel := Bel.alloc hbel (.cells #[.int .i64 (x - q), .int .i64 (y - p)] 37)
        generalize w3.alloc (.cells #[.int .i64 (x - q), .int .i64 (y - p)] 37) = U at H8 HR hbel ⊢
        have c0 : U.cell? ⟨w3.heap.size, 0, none⟩ = some (.int .i64 (x - q)) := by rw [H8.cell]; rfl
        have c1 : U.cell? ⟨w3.heap.size, 1, none⟩ = some (.int .i64 (y - p)) := by rw [H8.cell]; rfl
        by_cases hn : x - q < 0
        · have HW := Lib.hid (HV1.out hn)
          go_upto_region 14 with (fail)
          go_wp2_with (refine wpList_store_blk (cs := #[.int .i64 (x - q + 1048576), .int .i64 (y - p + 1048576)]) 37 _ _ _ HR (by kernel_rfl) rfl (by simp [Value.oneCell']) rfl rfl rfl rfl ?_)
          exact bodyPost_ret (results_blk (Blk.setRow #[.int .i64 (x - q + 1048576), .int .i64 (y - p + 1048576)] HR) Try.underlying37 (by kernel_rfl) rfl rfl) rfl ⟨by rw [HW.out.1, HW.out.2], Bel.setRow hbel (by omega) _⟩
        · have HW := Lib.hid (HV2.out (by omega))
          go_upto_region 15 with (fail)
          clear c0 c1
          go_wp2_with (first | (refine wpList_load_blk 37 _ _ H8 Try.underlying37 (by kernel_rfl) rfl rfl rfl ?_) | (refine wpList_store_blk (cs := #[.int .i64 (x - q), .int .i64 (y - p)]) 37 _ _ _ HR (by kernel_rfl) rfl (by simp [Value.oneCell']) rfl rfl rfl rfl ?_))
          exact bodyPost_ret (results_blk (Blk.setRow #[.int .i64 (x - q), .int .i64 (y - p)] HR) Try.underlying37 (by kernel_rfl) rfl rfl) rfl ⟨by rw [HW.out.1, HW.out.2], Bel.setRow hbel (by omega) _⟩
      · skip
        go_simp
        have H8 := Blk.new w2 37 #[.int .i64 0, .int .i64 0]
        have hg8 : w1.heap.size < w2.heap.size := HL.lt
        replace HL := Blk.alloc (.cells #[.int .i64 0, .int .i64 0] 37) HL
        replace HR := Blk.alloc (.cells #[.int .i64 0, .int .i64 0] 37) HR
        replace hbel := Bel.alloc hbel (.cells #[.int .i64 0, .int .i64 0] 37)
        refine hK.out _ _ (⟨HL, trivial⟩) (fun hHeld => ?_)
        clear hK K
        try simp only [Act.put, List.setIfInBounds_toArray, List.set_cons_zero, List.set_cons_succ]
        refine wpAnyH_ready (rs := [2]) (by kernel_rfl) (by simp) ?_
        refine AllReadyH.cons rfl (fun K hK => ?_) (AllReadyH.nil)
        go_simp
        go_at_call 43; refine (l03Sub_c x y p q (by omega) (by omega) (by omega) (by omega) (by omega) (by omega) (by omega) (by omega) _).mono ?_; rintro e w3 ⟨rfl, hb3⟩
        replace HL := Blk.step hb3 HL
        replace HR := Blk.step hb3 HR
        replace H8 := Blk.step hb3 H8
        replace hbel := Bel.step hb3 hbel
        clear hb3
        refine hK.out _ _ (⟨HL, trivial⟩) (fun hHeld => ?_)
        clear hK K
        try simp only [Act.put, List.setIfInBounds_toArray, List.set_cons_zero, List.set_cons_succ]
        have l0 := H8.cell 0
        have l1 := H8.cell 1
        have lf0 := H8.frozen 0
        have lf1 := H8.frozen 1
        simp only [List.getElem?_toArray, List.getElem?_cons_zero, List.getElem?_cons_succ] at l0 l1
        refine wpAnyH_ready (rs := [4]) (by kernel_rfl) (by simp) ?_
        refine AllReadyH.cons rfl (fun K hK => ?_) AllReadyH.nil
        go_simp
        refine hK.out _ _ (⟨Blk.far (p := ⟨w2.heap.size, 1, none⟩) _ (by first | omega | (simp; omega)) (Blk.far (p := ⟨w2.heap.size, 0, none⟩) _ (by first | omega | (simp; omega)) HL), trivial⟩) (fun hHeld => ?_)
        clear hK K
        try simp only [Act.put, List.setIfInBounds_toArray, List.set_cons_zero, List.set_cons_succ]
        refine wpAnyH_done (by kernel_rfl) ?_ _
        replace H8 : Blk ((w3.setCell ⟨w2.heap.size, 0, none⟩ (.int .i64 (x - q))).setCell ⟨w2.heap.size, 1, none⟩ (.int .i64 (y - p))) (w2.heap.size) 37 #[.int .i64 (x - q), .int .i64 (y - p)] := by have h := (H8.set_ 0 (.int .i64 (x - q))).set_ 1 (.int .i64 (y - p)); simpa using h
        replace HR := Blk.far (p := ⟨w2.heap.size, 1, none⟩) (.int .i64 (y - p)) (by first | omega | (simp; omega)) (Blk.far (p := ⟨w2.heap.size, 0, none⟩) (.int .i64 (x - q)) (by first | omega | (simp; omega)) HR)
        replace hbel := Below.setCell (p := ⟨w2.heap.size, 1, none⟩) (Below.setCell (p := ⟨w2.heap.size, 0, none⟩) hbel (by first | omega | (simp; omega)) (.int .i64 (x - q))) (by first | omega | (simp; omega)) (.int .i64 (y - p))
        clear l0 l1 lf0 lf1
        generalize ((w3.setCell ⟨w2.heap.size, 0, none⟩ (.int .i64 (x - q))).setCell ⟨w2.heap.size, 1, none⟩ (.int .i64 (y - p))) = U at H8 HR hbel ⊢
        have c0 : U.cell? ⟨w2.heap.size, 0, none⟩ = some (.int .i64 (x - q)) := by rw [H8.cell]; rfl
        have c1 : U.cell? ⟨w2.heap.size, 1, none⟩ = some (.int .i64 (y - p)) := by rw [H8.cell]; rfl
        by_cases hn : x - q < 0
        · have HW := Lib.hid (HV1.out hn)
          go_upto_region 14 with (fail)
          go_wp2_with (refine wpList_store_blk (cs := #[.int .i64 (x - q + 1048576), .int .i64 (y - p + 1048576)]) 37 _ _ _ HR (by kernel_rfl) rfl (by simp [Value.oneCell']) rfl rfl rfl rfl ?_)
          exact bodyPost_ret (results_blk (Blk.setRow #[.int .i64 (x - q + 1048576), .int .i64 (y - p + 1048576)] HR) Try.underlying37 (by kernel_rfl) rfl rfl) rfl ⟨by rw [HW.out.1, HW.out.2], Bel.setRow hbel (by omega) _⟩
        · have HW := Lib.hid (HV2.out (by omega))
          go_upto_region 15 with (fail)
          clear c0 c1
          go_wp2_with (first | (refine wpList_load_blk 37 _ _ H8 Try.underlying37 (by kernel_rfl) rfl rfl rfl ?_) | (refine wpList_store_blk (cs := #[.int .i64 (x - q), .int .i64 (y - p)]) 37 _ _ _ HR (by kernel_rfl) rfl (by simp [Value.oneCell']) rfl rfl rfl rfl ?_))
          exact bodyPost_ret (results_blk (Blk.setRow #[.int .i64 (x - q), .int .i64 (y - p)] HR) Try.underlying37 (by kernel_rfl) rfl rfl) rfl ⟨by rw [HW.out.1, HW.out.2], Bel.setRow hbel (by omega) _⟩
    · skip
      go_simp
      have H8 := Blk.new V 37 #[.int .i64 0, .int .i64 0]
      have hg8 : w1.heap.size < V.heap.size := HL.lt
      replace HL := Blk.alloc (.cells #[.int .i64 0, .int .i64 0] 37) HL
      replace HR := Blk.alloc (.cells #[.int .i64 0, .int .i64 0] 37) HR
      replace hbel := Bel.alloc hbel (.cells #[.int .i64 0, .int .i64 0] 37)
      refine hK.out _ _ (⟨HL, trivial⟩) (fun hHeld => ?_)
      clear hK K
      try simp only [Act.put, List.setIfInBounds_toArray, List.set_cons_zero, List.set_cons_succ]
      refine wpAnyH_ready (rs := [1]) (by kernel_rfl) (by simp) ?_
      refine AllReadyH.cons rfl (fun K hK => ?_) (AllReadyH.nil)
      go_simp
      go_at_call 40; refine (l03Log_c 314200000 (by omega) (by omega) _).mono ?_; rintro e w2 ⟨rfl, hb2⟩
      generalize lgLo 314200000 = p at *
      generalize lgHi 314200000 = q at *
      replace HL := Blk.step hb2 HL
      replace HR := Blk.step hb2 HR
      replace H8 := Blk.step hb2 H8
      replace hbel := Bel.step hb2 hbel
      clear hb2
      refine hK.out _ _ (⟨HL, trivial⟩) (fun hHeld => ?_)
      clear hK K
      try simp only [Act.put, List.setIfInBounds_toArray, List.set_cons_zero, List.set_cons_succ]
      refine wpAnyH_ready (rs := [2]) (by kernel_rfl) (by simp) ?_
      refine AllReadyH.cons rfl (fun K hK => ?_) (AllReadyH.nil)
      go_simp
      go_at_call 43; refine (l03Sub_c x y p q (by omega) (by omega) (by omega) (by omega) (by omega) (by omega) (by omega) (by omega) _).mono ?_; rintro e w3 ⟨rfl, hb3⟩
      replace HL := Blk.step hb3 HL
      replace HR := Blk.step hb3 HR
      replace H8 := Blk.step hb3 H8
      replace hbel := Bel.step hb3 hbel
      clear hb3
      refine hK.out _ _ (⟨HL, trivial⟩) (fun hHeld => ?_)
      clear hK K
      try simp only [Act.put, List.setIfInBounds_toArray, List.set_cons_zero, List.set_cons_succ]
      have l0 := H8.cell 0
      have l1 := H8.cell 1
      have lf0 := H8.frozen 0
      have lf1 := H8.frozen 1
      simp only [List.getElem?_toArray, List.getElem?_cons_zero, List.getElem?_cons_succ] at l0 l1
      refine wpAnyH_ready (rs := [4]) (by kernel_rfl) (by simp) ?_
      refine AllReadyH.cons rfl (fun K hK => ?_) AllReadyH.nil
      go_simp
      refine hK.out _ _ (⟨Blk.far (p := ⟨V.heap.size, 1, none⟩) _ (by first | omega | (simp; omega)) (Blk.far (p := ⟨V.heap.size, 0, none⟩) _ (by first | omega | (simp; omega)) HL), trivial⟩) (fun hHeld => ?_)
      clear hK K
      try simp only [Act.put, List.setIfInBounds_toArray, List.set_cons_zero, List.set_cons_succ]
      refine wpAnyH_done (by kernel_rfl) ?_ _
      replace H8 : Blk ((w3.setCell ⟨V.heap.size, 0, none⟩ (.int .i64 (x - q))).setCell ⟨V.heap.size, 1, none⟩ (.int .i64 (y - p))) (V.heap.size) 37 #[.int .i64 (x - q), .int .i64 (y - p)] := by have h := (H8.set_ 0 (.int .i64 (x - q))).set_ 1 (.int .i64 (y - p)); simpa using h
      replace HR := Blk.far (p := ⟨V.heap.size, 1, none⟩) (.int .i64 (y - p)) (by first | omega | (simp; omega)) (Blk.far (p := ⟨V.heap.size, 0, none⟩) (.int .i64 (x - q)) (by first | omega | (simp; omega)) HR)
      replace hbel := Below.setCell (p := ⟨V.heap.size, 1, none⟩) (Below.setCell (p := ⟨V.heap.size, 0, none⟩) hbel (by first | omega | (simp; omega)) (.int .i64 (x - q))) (by first | omega | (simp; omega)) (.int .i64 (y - p))
      clear l0 l1 lf0 lf1
      generalize ((w3.setCell ⟨V.heap.size, 0, none⟩ (.int .i64 (x - q))).setCell ⟨V.heap.size, 1, none⟩ (.int .i64 (y - p))) = U at H8 HR hbel ⊢
      have c0 : U.cell? ⟨V.heap.size, 0, none⟩ = some (.int .i64 (x - q)) := by rw [H8.cell]; rfl
      have c1 : U.cell? ⟨V.heap.size, 1, none⟩ = some (.int .i64 (y - p)) := by rw [H8.cell]; rfl
      by_cases hn : x - q < 0
      · have HW := Lib.hid (HV1.out hn)
        go_upto_region 14 with (fail)
        go_wp2_with (refine wpList_store_blk (cs := #[.int .i64 (x - q + 1048576), .int .i64 (y - p + 1048576)]) 37 _ _ _ HR (by kernel_rfl) rfl (by simp [Value.oneCell']) rfl rfl rfl rfl ?_)
        exact bodyPost_ret (results_blk (Blk.setRow #[.int .i64 (x - q + 1048576), .int .i64 (y - p + 1048576)] HR) Try.underlying37 (by kernel_rfl) rfl rfl) rfl ⟨by rw [HW.out.1, HW.out.2], Bel.setRow hbel (by omega) _⟩
      · have HW := Lib.hid (HV2.out (by omega))
        go_upto_region 15 with (fail)
        clear c0 c1
        go_wp2_with (first | (refine wpList_load_blk 37 _ _ H8 Try.underlying37 (by kernel_rfl) rfl rfl rfl ?_) | (refine wpList_store_blk (cs := #[.int .i64 (x - q), .int .i64 (y - p)]) 37 _ _ _ HR (by kernel_rfl) rfl (by simp [Value.oneCell']) rfl rfl rfl rfl ?_))
        exact bodyPost_ret (results_blk (Blk.setRow #[.int .i64 (x - q), .int .i64 (y - p)] HR) Try.underlying37 (by kernel_rfl) rfl rfl) rfl ⟨by rw [HW.out.1, HW.out.2], Bel.setRow hbel (by omega) _⟩
-- end S4
  by_cases s5 : sc = 5
  · subst s5
    have HV := Lib.hid (show psL 5 d t = Fl ((d - 1000) * 1048576) 9000 ∧ psH 5 d t = Cl ((d - 1000) * 1048576) 9000 by constructor <;> simp [psL, psH])
    go_enter Try.func26, Try.ntmps26
    go_wp2_with fail
    go_at_call 40; refine (l03Log_c _ (by omega) (by omega) _).mono ?_; rintro e w1 ⟨rfl, hb1⟩; obtain ⟨hc1, hf1, hz1⟩ := bel hb1; (try simp only [World.size_drew, World.cell?_drew, World.frozen?_drew] at hc1 hf1 hz1); (try simp only [World.heap_drewN, World.cell?_drewN, World.frozen?_drewN] at hc1 hf1 hz1); (try have hl1 : w.heap.size < w1.heap.size := by (have hq := hb1.size; (try simp at hq); omega)); (try have hm1 : w.heap.size + 1 < w1.heap.size := by (have hq := hb1.size; (try simp at hq); omega)); (try have hn1 : w.heap.size + 1 + 1 < w1.heap.size := by (have hq := hb1.size; (try simp at hq); omega)); (try have hp1 : b < w1.heap.size := by (have hq := hb1.size; (try simp at hq); omega)); (try have ho1 : b' < w1.heap.size := by (have hq := hb1.size; (try simp at hq); omega))
    generalize lgLo (d * 100000) = x at *
    generalize lgHi (d * 100000) = y at *
    go_wp2_with (first | (go_at_call 13; refine (l01Floor_c _ _ (by omega) (by omega) (by omega) (by omega) (by omega) _).mono ?_; rintro e w' ⟨rfl, rfl⟩) | (go_at_call 39; refine (l01Ceil_c _ _ (by omega) (by omega) (by omega) (by omega) (by omega) _).mono ?_; rintro e w' ⟨rfl, rfl⟩))
    refine bodyPost_ret (v := .agg #[.int .i64 (Fl ((d - 1000) * 1048576) 9000), .int .i64 (Cl ((d - 1000) * 1048576) 9000)]) (by simp [results, Try.results26, go_sem, *]) rfl ⟨by rw [HV.out.1, HV.out.2], by repeat (with_reducible first | exact Below.refl _ _ | assumption | refine Bel.alloc ?_ _ | refine Bel.step (by assumption) ?_ | refine Below.drew ?_ | refine Bel.drewN ?_ _ | refine Below.setCell ?_ (by first | exact Nat.le_refl _ | omega | (simp; done) | (simp; omega)) _)⟩
  have HV := Lib.hid (show psL sc d t = lgLo (d * 100000) ∧ psH sc d t = lgHi (d * 100000) by constructor <;> simp [psL, psH, s1, s2, s3, s4, s5])
  have n1 : (sc == 1) = false := by simpa using s1
  have n2 : (sc == 2) = false := by simpa using s2
  have n3 : (sc == 3) = false := by simpa using s3
  have n4 : (sc == 4) = false := by simpa using s4
  have n5 : (sc == 5) = false := by simpa using s5
  clear s1 s2 s3 s4 s5
  go_enter Try.func26, Try.ntmps26
  go_wp2_with fail
  go_at_call 40; refine (l03Log_c _ (by omega) (by omega) _).mono ?_; rintro e w1 ⟨rfl, hb1⟩; obtain ⟨hc1, hf1, hz1⟩ := bel hb1; (try simp only [World.size_drew, World.cell?_drew, World.frozen?_drew] at hc1 hf1 hz1); (try simp only [World.heap_drewN, World.cell?_drewN, World.frozen?_drewN] at hc1 hf1 hz1); (try have hl1 : w.heap.size < w1.heap.size := by (have hq := hb1.size; (try simp at hq); omega)); (try have hm1 : w.heap.size + 1 < w1.heap.size := by (have hq := hb1.size; (try simp at hq); omega)); (try have hn1 : w.heap.size + 1 + 1 < w1.heap.size := by (have hq := hb1.size; (try simp at hq); omega)); (try have hp1 : b < w1.heap.size := by (have hq := hb1.size; (try simp at hq); omega)); (try have ho1 : b' < w1.heap.size := by (have hq := hb1.size; (try simp at hq); omega))
  generalize lgLo (d * 100000) = x at *
  generalize lgHi (d * 100000) = y at *
  go_wp2
  refine bodyPost_ret (v := .agg #[.int .i64 x, .int .i64 y]) (by simp [results, Try.results26, go_sem, *]) rfl ⟨by rw [HV.out.1, HV.out.2], by repeat (with_reducible first | exact Below.refl _ _ | assumption | refine Bel.alloc ?_ _ | refine Bel.step (by assumption) ?_ | refine Below.drew ?_ | refine Bel.drewN ?_ _ | refine Below.setCell ?_ (by first | exact Nat.le_refl _ | omega | (simp; done) | (simp; omega)) _)⟩
theorem shift_c (b : Nat) (x y n : Int) (hx1 : -100000000 ≤ x) (hx2 : x ≤ 100000000) (hy1 : -100000000 ≤ y) (hy2 : y ≤ 100000000) (hn1 : -100000000 ≤ n) (hn2 : n ≤ 100000000) (W : World) (h0 : W.cell? ⟨b, 0, none⟩ = some (.int .i64 x)) (h1 : W.cell? ⟨b, 1, none⟩ = some (.int .i64 y)) (hb : b < W.heap.size) :
    Calls Try.prog 47 #[.int .i64 n, .pointer (some ⟨b, 0, none⟩)] W fun r w' => r = .returned (.agg #[.int .i64 (x + n), .int .i64 (y + n)]) ∧ Below W.heap.size W w' := by
  have HB := Lib.hid (Below.refl W.heap.size W)
  go_enter Try.func47, Try.ntmps47
  go_wp2
  refine bodyPost_ret (v := .agg #[.int .i64 (x + n), .int .i64 (y + n)]) (by simp [results, Try.results47, go_sem, *]) rfl ⟨rfl, by repeat (with_reducible first | exact Below.refl _ _ | assumption | refine Bel.alloc ?_ _ | refine Bel.step (by assumption) ?_ | refine Below.drew ?_ | refine Bel.drewN ?_ _ | refine Below.setCell ?_ (by first | exact Nat.le_refl _ | omega | (simp; done) | (simp; omega)) _)⟩
theorem fg0 (d : Int) : fgLo d 0 = lgLo (d * 100000) ∧ fgHi d 0 = lgHi (d * 100000) := by
  unfold fgLo fgHi; omega
set_option maxRecDepth 20000 in
set_option maxHeartbeats 4000000 in
theorem position_c (sc d t : Int) (h : okF d t = true) (w : World) :
    Calls Try.prog 33 #[.int .i64 sc, .agg #[.int .i64 d, .int .i64 t]] w fun r w' => r = .returned (.agg #[.int .i64 (psL sc d t), .int .i64 (psH sc d t)]) ∧ Below w.heap.size w w' := by
  obtain ⟨d1, d2, t1, t2⟩ := okF_iff h
  obtain ⟨b1, b2⟩ := lgLo_bd (d * 100000) (by omega) (by omega)
  obtain ⟨b3, b4⟩ := lgHi_bd (d * 100000) (by omega) (by omega)
  have hlt := lg5_lt d1 d2
  have G0 := Lib.hid (fg0 d)
  clear h
  by_cases s1 : sc = 1
  · subst s1
    have HV := Lib.hid (show psL 1 d t = Fl (lgLo (d * 100000) + 1048576 * (t % 2)) 2 ∧ psH 1 d t = Cl (lgHi (d * 100000) + 1048576 * (t % 2)) 2 by constructor <;> simp [psL, psH])
    have m1 : 0 ≤ t % 2 := by omega
    have m2 : t % 2 < 2 := by omega
    go_enter Try.func33, Try.ntmps33
    go_wp2_with fail
    go_at_call 46; refine (figureLog_c _ _ (by omega) (by omega) (by omega) (by omega) _).mono ?_; rintro e w1 ⟨rfl, hb1⟩; obtain ⟨hc1, hf1, hz1⟩ := bel hb1; (try simp only [World.size_drew, World.cell?_drew, World.frozen?_drew] at hc1 hf1 hz1); (try simp only [World.heap_drewN, World.cell?_drewN, World.frozen?_drewN] at hc1 hf1 hz1); (try have hl1 : w.heap.size < w1.heap.size := by (have hq := hb1.size; (try simp at hq); omega)); (try have hm1 : w.heap.size + 1 < w1.heap.size := by (have hq := hb1.size; (try simp at hq); omega)); (try have hn1 : w.heap.size + 1 + 1 < w1.heap.size := by (have hq := hb1.size; (try simp at hq); omega)); (try have hp1 : b < w1.heap.size := by (have hq := hb1.size; (try simp at hq); omega)); (try have ho1 : b' < w1.heap.size := by (have hq := hb1.size; (try simp at hq); omega))
    rw [G0.out.1, G0.out.2]
    generalize lgLo (d * 100000) = x at *
    generalize lgHi (d * 100000) = y at *
    go_wp2_with fail
    go_at_call 49; refine (modulo2_c t (by omega) (by omega) _).mono ?_; rintro e w' ⟨rfl, rfl⟩
    generalize t % 2 = m at *
    go_wp2_with fail
    go_at_call 47; refine (shift_c w1.heap.size x y (1048576 * m) (by omega) (by omega) (by omega) (by omega) (by omega) (by omega) _ (by simp [go_sem, *]) (by simp [go_sem, *]) (by simp)).mono ?_; rintro e w2 ⟨rfl, hb2⟩; obtain ⟨hc2, hf2, hz2⟩ := bel hb2; (try simp only [World.size_drew, World.cell?_drew, World.frozen?_drew] at hc2 hf2 hz2); (try simp only [World.heap_drewN, World.cell?_drewN, World.frozen?_drewN] at hc2 hf2 hz2); (try have hl2 : w.heap.size < w2.heap.size := by (have hq := hb2.size; (try simp at hq); omega)); (try have hm2 : w.heap.size + 1 < w2.heap.size := by (have hq := hb2.size; (try simp at hq); omega)); (try have hn2 : w.heap.size + 1 + 1 < w2.heap.size := by (have hq := hb2.size; (try simp at hq); omega)); (try have hp2 : b < w2.heap.size := by (have hq := hb2.size; (try simp at hq); omega)); (try have ho2 : b' < w2.heap.size := by (have hq := hb2.size; (try simp at hq); omega))
    go_wp2_with fail
    go_at_call 48; refine (scaled_d _ _ 2 (by omega) (by omega) (by omega) (by omega) (by omega) (by omega) (by omega) _).mono ?_; rintro e w3 ⟨rfl, hb3⟩; obtain ⟨hc3, hf3, hz3⟩ := bel hb3; (try simp only [World.size_drew, World.cell?_drew, World.frozen?_drew] at hc3 hf3 hz3); (try simp only [World.heap_drewN, World.cell?_drewN, World.frozen?_drewN] at hc3 hf3 hz3); (try have hl3 : w.heap.size < w3.heap.size := by (have hq := hb3.size; (try simp at hq); omega)); (try have hm3 : w.heap.size + 1 < w3.heap.size := by (have hq := hb3.size; (try simp at hq); omega)); (try have hn3 : w.heap.size + 1 + 1 < w3.heap.size := by (have hq := hb3.size; (try simp at hq); omega)); (try have hp3 : b < w3.heap.size := by (have hq := hb3.size; (try simp at hq); omega)); (try have ho3 : b' < w3.heap.size := by (have hq := hb3.size; (try simp at hq); omega))
    go_wp2
    refine bodyPost_ret (v := .agg #[.int .i64 (Fl (x + 1048576 * m) 2), .int .i64 (Cl (y + 1048576 * m) 2)]) (by simp [results, Try.results33, go_sem, *]) rfl ⟨by rw [HV.out.1, HV.out.2], by repeat (with_reducible first | exact Below.refl _ _ | assumption | refine Bel.alloc ?_ _ | refine Bel.step (by assumption) ?_ | refine Below.drew ?_ | refine Bel.drewN ?_ _ | refine Below.setCell ?_ (by first | exact Nat.le_refl _ | omega | (simp; done) | (simp; omega)) _)⟩
  by_cases s2 : sc = 2
  · subst s2
    have HV := Lib.hid (show psL 2 d t = Fl (lgLo (d * 100000) + 1048576 * (t % 3)) 3 ∧ psH 2 d t = Cl (lgHi (d * 100000) + 1048576 * (t % 3)) 3 by constructor <;> simp [psL, psH])
    have m1 : 0 ≤ t % 3 := by omega
    have m2 : t % 3 < 3 := by omega
    go_enter Try.func33, Try.ntmps33
    go_wp2_with fail
    go_at_call 46; refine (figureLog_c _ _ (by omega) (by omega) (by omega) (by omega) _).mono ?_; rintro e w1 ⟨rfl, hb1⟩; obtain ⟨hc1, hf1, hz1⟩ := bel hb1; (try simp only [World.size_drew, World.cell?_drew, World.frozen?_drew] at hc1 hf1 hz1); (try simp only [World.heap_drewN, World.cell?_drewN, World.frozen?_drewN] at hc1 hf1 hz1); (try have hl1 : w.heap.size < w1.heap.size := by (have hq := hb1.size; (try simp at hq); omega)); (try have hm1 : w.heap.size + 1 < w1.heap.size := by (have hq := hb1.size; (try simp at hq); omega)); (try have hn1 : w.heap.size + 1 + 1 < w1.heap.size := by (have hq := hb1.size; (try simp at hq); omega)); (try have hp1 : b < w1.heap.size := by (have hq := hb1.size; (try simp at hq); omega)); (try have ho1 : b' < w1.heap.size := by (have hq := hb1.size; (try simp at hq); omega))
    rw [G0.out.1, G0.out.2]
    generalize lgLo (d * 100000) = x at *
    generalize lgHi (d * 100000) = y at *
    go_wp2_with fail
    go_at_call 49; refine (modulo3_c t (by omega) (by omega) _).mono ?_; rintro e w' ⟨rfl, rfl⟩
    generalize t % 3 = m at *
    go_wp2_with fail
    go_at_call 47; refine (shift_c w1.heap.size x y (1048576 * m) (by omega) (by omega) (by omega) (by omega) (by omega) (by omega) _ (by simp [go_sem, *]) (by simp [go_sem, *]) (by simp)).mono ?_; rintro e w2 ⟨rfl, hb2⟩; obtain ⟨hc2, hf2, hz2⟩ := bel hb2; (try simp only [World.size_drew, World.cell?_drew, World.frozen?_drew] at hc2 hf2 hz2); (try simp only [World.heap_drewN, World.cell?_drewN, World.frozen?_drewN] at hc2 hf2 hz2); (try have hl2 : w.heap.size < w2.heap.size := by (have hq := hb2.size; (try simp at hq); omega)); (try have hm2 : w.heap.size + 1 < w2.heap.size := by (have hq := hb2.size; (try simp at hq); omega)); (try have hn2 : w.heap.size + 1 + 1 < w2.heap.size := by (have hq := hb2.size; (try simp at hq); omega)); (try have hp2 : b < w2.heap.size := by (have hq := hb2.size; (try simp at hq); omega)); (try have ho2 : b' < w2.heap.size := by (have hq := hb2.size; (try simp at hq); omega))
    go_wp2_with fail
    go_at_call 48; refine (scaled_d _ _ 3 (by omega) (by omega) (by omega) (by omega) (by omega) (by omega) (by omega) _).mono ?_; rintro e w3 ⟨rfl, hb3⟩; obtain ⟨hc3, hf3, hz3⟩ := bel hb3; (try simp only [World.size_drew, World.cell?_drew, World.frozen?_drew] at hc3 hf3 hz3); (try simp only [World.heap_drewN, World.cell?_drewN, World.frozen?_drewN] at hc3 hf3 hz3); (try have hl3 : w.heap.size < w3.heap.size := by (have hq := hb3.size; (try simp at hq); omega)); (try have hm3 : w.heap.size + 1 < w3.heap.size := by (have hq := hb3.size; (try simp at hq); omega)); (try have hn3 : w.heap.size + 1 + 1 < w3.heap.size := by (have hq := hb3.size; (try simp at hq); omega)); (try have hp3 : b < w3.heap.size := by (have hq := hb3.size; (try simp at hq); omega)); (try have ho3 : b' < w3.heap.size := by (have hq := hb3.size; (try simp at hq); omega))
    go_wp2
    refine bodyPost_ret (v := .agg #[.int .i64 (Fl (x + 1048576 * m) 3), .int .i64 (Cl (y + 1048576 * m) 3)]) (by simp [results, Try.results33, go_sem, *]) rfl ⟨by rw [HV.out.1, HV.out.2], by repeat (with_reducible first | exact Below.refl _ _ | assumption | refine Bel.alloc ?_ _ | refine Bel.step (by assumption) ?_ | refine Below.drew ?_ | refine Bel.drewN ?_ _ | refine Below.setCell ?_ (by first | exact Nat.le_refl _ | omega | (simp; done) | (simp; omega)) _)⟩
  by_cases s3 : sc = 3
  · subst s3
    have HV := Lib.hid (show psL 3 d t = 1048576 - lgHi (d * 100000) ∧ psH 3 d t = 1048576 - lgLo (d * 100000) by constructor <;> simp [psL, psH])
    go_enter Try.func33, Try.ntmps33
    go_wp2_with fail
    go_at_call 46; refine (figureLog_c _ _ (by omega) (by omega) (by omega) (by omega) _).mono ?_; rintro e w1 ⟨rfl, hb1⟩; obtain ⟨hc1, hf1, hz1⟩ := bel hb1; (try simp only [World.size_drew, World.cell?_drew, World.frozen?_drew] at hc1 hf1 hz1); (try simp only [World.heap_drewN, World.cell?_drewN, World.frozen?_drewN] at hc1 hf1 hz1); (try have hl1 : w.heap.size < w1.heap.size := by (have hq := hb1.size; (try simp at hq); omega)); (try have hm1 : w.heap.size + 1 < w1.heap.size := by (have hq := hb1.size; (try simp at hq); omega)); (try have hn1 : w.heap.size + 1 + 1 < w1.heap.size := by (have hq := hb1.size; (try simp at hq); omega)); (try have hp1 : b < w1.heap.size := by (have hq := hb1.size; (try simp at hq); omega)); (try have ho1 : b' < w1.heap.size := by (have hq := hb1.size; (try simp at hq); omega))
    rw [G0.out.1, G0.out.2]
    generalize lgLo (d * 100000) = x at *
    generalize lgHi (d * 100000) = y at *
    go_wp2_with (first | (go_at_call 50; refine (difference_c _ _ _ _ (by omega) (by omega) (by omega) (by omega) (by omega) (by omega) (by omega) (by omega) _).mono ?_; rintro e w1 ⟨rfl, hb1⟩; obtain ⟨hc1, hf1, hz1⟩ := bel hb1; (try simp only [World.size_drew, World.cell?_drew, World.frozen?_drew] at hc1 hf1 hz1); (try simp only [World.heap_drewN, World.cell?_drewN, World.frozen?_drewN] at hc1 hf1 hz1); (try have hl1 : w.heap.size < w1.heap.size := by (have hq := hb1.size; (try simp at hq); omega)); (try have hm1 : w.heap.size + 1 < w1.heap.size := by (have hq := hb1.size; (try simp at hq); omega)); (try have hn1 : w.heap.size + 1 + 1 < w1.heap.size := by (have hq := hb1.size; (try simp at hq); omega)); (try have hp1 : b < w1.heap.size := by (have hq := hb1.size; (try simp at hq); omega)); (try have ho1 : b' < w1.heap.size := by (have hq := hb1.size; (try simp at hq); omega))))
    refine bodyPost_ret (v := .agg #[.int .i64 (1048576 - y), .int .i64 (1048576 - x)]) (by simp [results, Try.results33, go_sem, *]) rfl ⟨by rw [HV.out.1, HV.out.2], by repeat (with_reducible first | exact Below.refl _ _ | assumption | refine Bel.alloc ?_ _ | refine Bel.step (by assumption) ?_ | refine Below.drew ?_ | refine Bel.drewN ?_ _ | refine Below.setCell ?_ (by first | exact Nat.le_refl _ | omega | (simp; done) | (simp; omega)) _)⟩
  by_cases s4 : sc = 4
  · subst s4
    obtain ⟨c1, c2⟩ := lgLo_bd 314200000 (by omega) (by omega)
    obtain ⟨c3, c4⟩ := lgHi_bd 314200000 (by omega) (by omega)
    have G1 := Lib.hid (show fgLo 3142 0 = lgLo 314200000 ∧ fgHi 3142 0 = lgHi 314200000 from fg0 3142)
    have HV1 := Lib.hid (fun hn : lgLo (d * 100000) - lgHi 314200000 < 0 => show psL 4 d t = lgLo (d * 100000) - lgHi 314200000 + 1048576 ∧ psH 4 d t = lgHi (d * 100000) - lgLo 314200000 + 1048576 by constructor <;> simp [psL, psH, hn])
    have HV2 := Lib.hid (fun hn : ¬ lgLo (d * 100000) - lgHi 314200000 < 0 => show psL 4 d t = lgLo (d * 100000) - lgHi 314200000 ∧ psH 4 d t = lgHi (d * 100000) - lgLo 314200000 by constructor <;> simp [psL, psH, hn])
    go_enter Try.func33, Try.ntmps33
    go_wp2_with fail
    go_at_call 46; refine (figureLog_c _ _ (by omega) (by omega) (by omega) (by omega) _).mono ?_; rintro e w1 ⟨rfl, hb1⟩; obtain ⟨hc1, hf1, hz1⟩ := bel hb1; (try simp only [World.size_drew, World.cell?_drew, World.frozen?_drew] at hc1 hf1 hz1); (try simp only [World.heap_drewN, World.cell?_drewN, World.frozen?_drewN] at hc1 hf1 hz1); (try have hl1 : w.heap.size < w1.heap.size := by (have hq := hb1.size; (try simp at hq); omega)); (try have hm1 : w.heap.size + 1 < w1.heap.size := by (have hq := hb1.size; (try simp at hq); omega)); (try have hn1 : w.heap.size + 1 + 1 < w1.heap.size := by (have hq := hb1.size; (try simp at hq); omega)); (try have hp1 : b < w1.heap.size := by (have hq := hb1.size; (try simp at hq); omega)); (try have ho1 : b' < w1.heap.size := by (have hq := hb1.size; (try simp at hq); omega))
    rw [G0.out.1, G0.out.2]
    generalize lgLo (d * 100000) = x at *
    generalize lgHi (d * 100000) = y at *
-- begin I4
    go_upto_region 14 with (fail)
    have HL : Blk (w1.alloc (.cells #[.int .i64 x, .int .i64 y] 37)) w1.heap.size 37 #[.int .i64 x, .int .i64 y] := Blk.new _ _ _
    have HR : Blk (w1.alloc (.cells #[.int .i64 x, .int .i64 y] 37)) (w.heap.size + 1) 37 #[.int .i64 0, .int .i64 0] := Blk.alloc _ (Blk.step hb1 (by have h := Blk.new (w.alloc (.cells #[.int .i64 d, .int .i64 t] 26)) 37 #[.int .i64 0, .int .i64 0]; simp only [World.size_alloc] at h; exact h))
    have hbel : Below w.heap.size w (w1.alloc (.cells #[.int .i64 x, .int .i64 y] 37)) := by repeat (with_reducible first | exact Below.refl _ _ | assumption | refine Bel.alloc ?_ _ | refine Bel.step (by assumption) ?_ | refine Below.drew ?_ | refine Bel.drewN ?_ _ | refine Below.setCell ?_ (by first | exact Nat.le_refl _ | omega | (simp; done) | (simp; omega)) _)
    clear hc1 hf1 hz1 hb1
    replace HL := HL.drew
    replace HR := HR.drew
    replace hbel := Below.drew hbel
    refine wp_region_held_drew (S := fun _ => True) (by kernel_rfl) (trivial) (fun hHeld => ?_)
    generalize (w1.alloc (.cells #[.int .i64 x, .int .i64 y] 37)).drew = V at HL HR hbel hHeld ⊢
    refine wpAnyH_take (i := 1) (v := (.agg #[.int .i64 3142, .int .i64 0])) rfl (by kernel_rfl) (by kernel_rfl) (by kernel_rfl) (fun _ _ _ h => h) (Or.inl ⟨by rfl, fun w _ => by simp [go_sem, execOp]⟩) hHeld ?_
    try simp only [Act.put, List.setIfInBounds_toArray, List.set_cons_zero, List.set_cons_succ]
    refine wpAnyH_ready (rs := [0, 2]) (by kernel_rfl) (by simp) ?_
    refine AllReadyH.cons rfl (fun K hK => ?_) (AllReadyH.cons rfl (fun K hK => ?_) (AllReadyH.nil))
    · skip
      have c0 : V.cell? ⟨w1.heap.size, 0, none⟩ = some (.int .i64 x) := by rw [HL.cell]; rfl
      have c1 : V.cell? ⟨w1.heap.size, 1, none⟩ = some (.int .i64 y) := by rw [HL.cell]; rfl
      go_simp
      refine hK.out _ _ (trivial) (fun hHeld => ?_)
      clear hK K
      try simp only [Act.put, List.setIfInBounds_toArray, List.set_cons_zero, List.set_cons_succ]
      clear c0 c1
      refine wpAnyH_ready (rs := [2]) (by kernel_rfl) (by simp) ?_
      refine AllReadyH.cons rfl (fun K hK => ?_) (AllReadyH.nil)
      go_simp
      go_at_call 46; refine (figureLog_c 3142 0 (by omega) (by omega) (by omega) (by omega) _).mono ?_; rintro e w2 ⟨rfl, hb2⟩
      rw [G1.out.1, G1.out.2]
      generalize lgLo 314200000 = p at *
      generalize lgHi 314200000 = q at *
      replace HL := Blk.step hb2 HL
      replace HR := Blk.step hb2 HR
      replace hbel := Bel.step hb2 hbel
      clear hb2
      refine hK.out _ _ (trivial) (fun hHeld => ?_)
      clear hK K
      try simp only [Act.put, List.setIfInBounds_toArray, List.set_cons_zero, List.set_cons_succ]
      refine wpAnyH_ready (rs := [3]) (by kernel_rfl) (by simp) ?_
      refine AllReadyH.cons rfl (fun K hK => ?_) (AllReadyH.nil)
      go_simp
      go_at_call 50; refine (difference_c x y p q (by omega) (by omega) (by omega) (by omega) (by omega) (by omega) (by omega) (by omega) _).mono ?_; rintro e w3 ⟨rfl, hb3⟩
      replace HL := Blk.step hb3 HL
      replace HR := Blk.step hb3 HR
      replace hbel := Bel.step hb3 hbel
      clear hb3
      refine hK.out _ _ (trivial) (fun hHeld => ?_)
      clear hK K
      try simp only [Act.put, List.setIfInBounds_toArray, List.set_cons_zero, List.set_cons_succ]
      have l0 := HL.cell 0
      have l1 := HL.cell 1
      have lf0 := HL.frozen 0
      have lf1 := HL.frozen 1
      simp only [List.getElem?_toArray, List.getElem?_cons_zero, List.getElem?_cons_succ] at l0 l1
      refine wpAnyH_ready (rs := [4]) (by kernel_rfl) (by simp) ?_
      refine AllReadyH.cons rfl (fun K hK => ?_) AllReadyH.nil
      go_simp
      refine hK.out _ _ (trivial) (fun hHeld => ?_)
      clear hK K
      try simp only [Act.put, List.setIfInBounds_toArray, List.set_cons_zero, List.set_cons_succ]
      refine wpAnyH_done (by kernel_rfl) ?_ _
      replace HL : Blk ((w3.setCell ⟨w1.heap.size, 0, none⟩ (.int .i64 (x - q))).setCell ⟨w1.heap.size, 1, none⟩ (.int .i64 (y - p))) (w1.heap.size) 37 #[.int .i64 (x - q), .int .i64 (y - p)] := by have h := (HL.set_ 0 (.int .i64 (x - q))).set_ 1 (.int .i64 (y - p)); simpa using h
      replace HR := Blk.far (p := ⟨w1.heap.size, 1, none⟩) (.int .i64 (y - p)) (by first | omega | (simp; omega)) (Blk.far (p := ⟨w1.heap.size, 0, none⟩) (.int .i64 (x - q)) (by first | omega | (simp; omega)) HR)
      replace hbel := Below.setCell (p := ⟨w1.heap.size, 1, none⟩) (Below.setCell (p := ⟨w1.heap.size, 0, none⟩) hbel (by first | omega | (simp; omega)) (.int .i64 (x - q))) (by first | omega | (simp; omega)) (.int .i64 (y - p))
      clear l0 l1 lf0 lf1
      generalize ((w3.setCell ⟨w1.heap.size, 0, none⟩ (.int .i64 (x - q))).setCell ⟨w1.heap.size, 1, none⟩ (.int .i64 (y - p))) = U at HL HR hbel ⊢
      have c0 : U.cell? ⟨w1.heap.size, 0, none⟩ = some (.int .i64 (x - q)) := by rw [HL.cell]; rfl
      have c1 : U.cell? ⟨w1.heap.size, 1, none⟩ = some (.int .i64 (y - p)) := by rw [HL.cell]; rfl
      have hlb := HL.lt
      by_cases hn : x - q < 0
      · have HW := Lib.hid (HV1.out hn)
        go_wp2_with fail
        go_at_call 47; refine (shift_c w1.heap.size (x - q) (y - p) 1048576 (by omega) (by omega) (by omega) (by omega) (by omega) (by omega) U c0 c1 hlb).mono ?_; rintro e w4 ⟨rfl, hb4⟩; obtain ⟨hc4, hf4, hz4⟩ := bel hb4; (try simp only [World.size_drew, World.cell?_drew, World.frozen?_drew] at hc4 hf4 hz4); (try simp only [World.heap_drewN, World.cell?_drewN, World.frozen?_drewN] at hc4 hf4 hz4); (try have hl4 : w.heap.size < w4.heap.size := by (have hq := hb4.size; (try simp at hq); omega)); (try have hm4 : w.heap.size + 1 < w4.heap.size := by (have hq := hb4.size; (try simp at hq); omega)); (try have hn4 : w.heap.size + 1 + 1 < w4.heap.size := by (have hq := hb4.size; (try simp at hq); omega)); (try have hp4 : b < w4.heap.size := by (have hq := hb4.size; (try simp at hq); omega)); (try have ho4 : b' < w4.heap.size := by (have hq := hb4.size; (try simp at hq); omega))
        replace HL := Blk.step hb4 HL
        replace HR := Blk.step hb4 HR
        replace hbel := Bel.step hb4 hbel
        clear hb4 hc4 hf4 hz4 c0 c1
        go_upto_region 17 with (refine wpList_store_blk (cs := #[.int .i64 (x - q + 1048576), .int .i64 (y - p + 1048576)]) 37 _ _ _ HL (by kernel_rfl) rfl (by simp [Value.oneCell']) rfl rfl rfl rfl ?_)
        have HL2 := Blk.setRow #[.int .i64 (x - q + 1048576), .int .i64 (y - p + 1048576)] HL
        have HR2 : Blk (w4.setRow w1.heap.size #[.int .i64 (x - q + 1048576), .int .i64 (y - p + 1048576)]) (w.heap.size + 1) 37 #[.int .i64 0, .int .i64 0] := Blk.setRow_far _ (by omega) HR
        have hbel2 : Below w.heap.size w (w4.setRow w1.heap.size #[.int .i64 (x - q + 1048576), .int .i64 (y - p + 1048576)]) := Bel.setRow hbel (by omega) _
        generalize w4.setRow w1.heap.size #[.int .i64 (x - q + 1048576), .int .i64 (y - p + 1048576)] = Y at HL2 HR2 hbel2 ⊢
        go_wp2_with (first | (refine wpList_load_blk 37 _ _ HL2 Try.underlying37 (by kernel_rfl) rfl rfl rfl ?_) | (refine wpList_store_blk (cs := #[.int .i64 (x - q + 1048576), .int .i64 (y - p + 1048576)]) 37 _ _ _ HR2 (by kernel_rfl) rfl (by simp [Value.oneCell']) rfl rfl rfl rfl ?_))
        exact bodyPost_ret (results_blk (Blk.setRow #[.int .i64 (x - q + 1048576), .int .i64 (y - p + 1048576)] HR2) Try.underlying37 (by kernel_rfl) rfl rfl) rfl ⟨by rw [HW.out.1, HW.out.2], Bel.setRow hbel2 (by omega) _⟩
      · have HW := Lib.hid (HV2.out (by omega))
        go_upto_region 17 with (fail)
        clear c0 c1
        go_wp2_with (first | (refine wpList_load_blk 37 _ _ HL Try.underlying37 (by kernel_rfl) rfl rfl rfl ?_) | (refine wpList_store_blk (cs := #[.int .i64 (x - q), .int .i64 (y - p)]) 37 _ _ _ HR (by kernel_rfl) rfl (by simp [Value.oneCell']) rfl rfl rfl rfl ?_))
        exact bodyPost_ret (results_blk (Blk.setRow #[.int .i64 (x - q), .int .i64 (y - p)] HR) Try.underlying37 (by kernel_rfl) rfl rfl) rfl ⟨by rw [HW.out.1, HW.out.2], Bel.setRow hbel (by omega) _⟩
    · skip
      go_simp
      go_at_call 46; refine (figureLog_c 3142 0 (by omega) (by omega) (by omega) (by omega) _).mono ?_; rintro e w2 ⟨rfl, hb2⟩
      rw [G1.out.1, G1.out.2]
      generalize lgLo 314200000 = p at *
      generalize lgHi 314200000 = q at *
      replace HL := Blk.step hb2 HL
      replace HR := Blk.step hb2 HR
      replace hbel := Bel.step hb2 hbel
      clear hb2
      refine hK.out _ _ (trivial) (fun hHeld => ?_)
      clear hK K
      try simp only [Act.put, List.setIfInBounds_toArray, List.set_cons_zero, List.set_cons_succ]
      have c0 : w2.cell? ⟨w1.heap.size, 0, none⟩ = some (.int .i64 x) := by rw [HL.cell]; rfl
      have c1 : w2.cell? ⟨w1.heap.size, 1, none⟩ = some (.int .i64 y) := by rw [HL.cell]; rfl
      refine wpAnyH_ready (rs := [0]) (by kernel_rfl) (by simp) ?_
      refine AllReadyH.cons rfl (fun K hK => ?_) AllReadyH.nil
      go_simp
      refine hK.out _ _ (trivial) (fun hHeld => ?_)
      clear hK K
      try simp only [Act.put, List.setIfInBounds_toArray, List.set_cons_zero, List.set_cons_succ]
      clear c0 c1
      refine wpAnyH_ready (rs := [3]) (by kernel_rfl) (by simp) ?_
      refine AllReadyH.cons rfl (fun K hK => ?_) (AllReadyH.nil)
      go_simp
      go_at_call 50; refine (difference_c x y p q (by omega) (by omega) (by omega) (by omega) (by omega) (by omega) (by omega) (by omega) _).mono ?_; rintro e w3 ⟨rfl, hb3⟩
      replace HL := Blk.step hb3 HL
      replace HR := Blk.step hb3 HR
      replace hbel := Bel.step hb3 hbel
      clear hb3
      refine hK.out _ _ (trivial) (fun hHeld => ?_)
      clear hK K
      try simp only [Act.put, List.setIfInBounds_toArray, List.set_cons_zero, List.set_cons_succ]
      have l0 := HL.cell 0
      have l1 := HL.cell 1
      have lf0 := HL.frozen 0
      have lf1 := HL.frozen 1
      simp only [List.getElem?_toArray, List.getElem?_cons_zero, List.getElem?_cons_succ] at l0 l1
      refine wpAnyH_ready (rs := [4]) (by kernel_rfl) (by simp) ?_
      refine AllReadyH.cons rfl (fun K hK => ?_) AllReadyH.nil
      go_simp
      refine hK.out _ _ (trivial) (fun hHeld => ?_)
      clear hK K
      try simp only [Act.put, List.setIfInBounds_toArray, List.set_cons_zero, List.set_cons_succ]
      refine wpAnyH_done (by kernel_rfl) ?_ _
      replace HL : Blk ((w3.setCell ⟨w1.heap.size, 0, none⟩ (.int .i64 (x - q))).setCell ⟨w1.heap.size, 1, none⟩ (.int .i64 (y - p))) (w1.heap.size) 37 #[.int .i64 (x - q), .int .i64 (y - p)] := by have h := (HL.set_ 0 (.int .i64 (x - q))).set_ 1 (.int .i64 (y - p)); simpa using h
      replace HR := Blk.far (p := ⟨w1.heap.size, 1, none⟩) (.int .i64 (y - p)) (by first | omega | (simp; omega)) (Blk.far (p := ⟨w1.heap.size, 0, none⟩) (.int .i64 (x - q)) (by first | omega | (simp; omega)) HR)
      replace hbel := Below.setCell (p := ⟨w1.heap.size, 1, none⟩) (Below.setCell (p := ⟨w1.heap.size, 0, none⟩) hbel (by first | omega | (simp; omega)) (.int .i64 (x - q))) (by first | omega | (simp; omega)) (.int .i64 (y - p))
      clear l0 l1 lf0 lf1
      generalize ((w3.setCell ⟨w1.heap.size, 0, none⟩ (.int .i64 (x - q))).setCell ⟨w1.heap.size, 1, none⟩ (.int .i64 (y - p))) = U at HL HR hbel ⊢
      have c0 : U.cell? ⟨w1.heap.size, 0, none⟩ = some (.int .i64 (x - q)) := by rw [HL.cell]; rfl
      have c1 : U.cell? ⟨w1.heap.size, 1, none⟩ = some (.int .i64 (y - p)) := by rw [HL.cell]; rfl
      have hlb := HL.lt
      by_cases hn : x - q < 0
      · have HW := Lib.hid (HV1.out hn)
        go_wp2_with fail
        go_at_call 47; refine (shift_c w1.heap.size (x - q) (y - p) 1048576 (by omega) (by omega) (by omega) (by omega) (by omega) (by omega) U c0 c1 hlb).mono ?_; rintro e w4 ⟨rfl, hb4⟩; obtain ⟨hc4, hf4, hz4⟩ := bel hb4; (try simp only [World.size_drew, World.cell?_drew, World.frozen?_drew] at hc4 hf4 hz4); (try simp only [World.heap_drewN, World.cell?_drewN, World.frozen?_drewN] at hc4 hf4 hz4); (try have hl4 : w.heap.size < w4.heap.size := by (have hq := hb4.size; (try simp at hq); omega)); (try have hm4 : w.heap.size + 1 < w4.heap.size := by (have hq := hb4.size; (try simp at hq); omega)); (try have hn4 : w.heap.size + 1 + 1 < w4.heap.size := by (have hq := hb4.size; (try simp at hq); omega)); (try have hp4 : b < w4.heap.size := by (have hq := hb4.size; (try simp at hq); omega)); (try have ho4 : b' < w4.heap.size := by (have hq := hb4.size; (try simp at hq); omega))
        replace HL := Blk.step hb4 HL
        replace HR := Blk.step hb4 HR
        replace hbel := Bel.step hb4 hbel
        clear hb4 hc4 hf4 hz4 c0 c1
        go_upto_region 17 with (refine wpList_store_blk (cs := #[.int .i64 (x - q + 1048576), .int .i64 (y - p + 1048576)]) 37 _ _ _ HL (by kernel_rfl) rfl (by simp [Value.oneCell']) rfl rfl rfl rfl ?_)
        have HL2 := Blk.setRow #[.int .i64 (x - q + 1048576), .int .i64 (y - p + 1048576)] HL
        have HR2 : Blk (w4.setRow w1.heap.size #[.int .i64 (x - q + 1048576), .int .i64 (y - p + 1048576)]) (w.heap.size + 1) 37 #[.int .i64 0, .int .i64 0] := Blk.setRow_far _ (by omega) HR
        have hbel2 : Below w.heap.size w (w4.setRow w1.heap.size #[.int .i64 (x - q + 1048576), .int .i64 (y - p + 1048576)]) := Bel.setRow hbel (by omega) _
        generalize w4.setRow w1.heap.size #[.int .i64 (x - q + 1048576), .int .i64 (y - p + 1048576)] = Y at HL2 HR2 hbel2 ⊢
        go_wp2_with (first | (refine wpList_load_blk 37 _ _ HL2 Try.underlying37 (by kernel_rfl) rfl rfl rfl ?_) | (refine wpList_store_blk (cs := #[.int .i64 (x - q + 1048576), .int .i64 (y - p + 1048576)]) 37 _ _ _ HR2 (by kernel_rfl) rfl (by simp [Value.oneCell']) rfl rfl rfl rfl ?_))
        exact bodyPost_ret (results_blk (Blk.setRow #[.int .i64 (x - q + 1048576), .int .i64 (y - p + 1048576)] HR2) Try.underlying37 (by kernel_rfl) rfl rfl) rfl ⟨by rw [HW.out.1, HW.out.2], Bel.setRow hbel2 (by omega) _⟩
      · have HW := Lib.hid (HV2.out (by omega))
        go_upto_region 17 with (fail)
        clear c0 c1
        go_wp2_with (first | (refine wpList_load_blk 37 _ _ HL Try.underlying37 (by kernel_rfl) rfl rfl rfl ?_) | (refine wpList_store_blk (cs := #[.int .i64 (x - q), .int .i64 (y - p)]) 37 _ _ _ HR (by kernel_rfl) rfl (by simp [Value.oneCell']) rfl rfl rfl rfl ?_))
        exact bodyPost_ret (results_blk (Blk.setRow #[.int .i64 (x - q), .int .i64 (y - p)] HR) Try.underlying37 (by kernel_rfl) rfl rfl) rfl ⟨by rw [HW.out.1, HW.out.2], Bel.setRow hbel (by omega) _⟩
-- end I4
  by_cases s5 : sc = 5
  · subst s5
    have HV := Lib.hid (show psL 5 d t = Fl ((d - 1000) * 1048576) 9000 ∧ psH 5 d t = Cl ((d - 1000) * 1048576) 9000 by constructor <;> simp [psL, psH])
    go_enter Try.func33, Try.ntmps33
    go_wp2_with (first | (go_at_call 20; refine (down_c _ _ (by omega) (by omega) (by omega) (by omega) (by omega) _).mono ?_; rintro e w' ⟨rfl, rfl⟩) | (go_at_call 34; refine (up_c _ _ (by omega) (by omega) (by omega) (by omega) (by omega) _).mono ?_; rintro e w' ⟨rfl, rfl⟩))
    refine bodyPost_ret (v := .agg #[.int .i64 (Fl ((d - 1000) * 1048576) 9000), .int .i64 (Cl ((d - 1000) * 1048576) 9000)]) (by simp [results, Try.results33, go_sem, *]) rfl ⟨by rw [HV.out.1, HV.out.2], by repeat (with_reducible first | exact Below.refl _ _ | assumption | refine Bel.alloc ?_ _ | refine Bel.step (by assumption) ?_ | refine Below.drew ?_ | refine Bel.drewN ?_ _ | refine Below.setCell ?_ (by first | exact Nat.le_refl _ | omega | (simp; done) | (simp; omega)) _)⟩
  have HV := Lib.hid (show psL sc d t = lgLo (d * 100000) ∧ psH sc d t = lgHi (d * 100000) by constructor <;> simp [psL, psH, s1, s2, s3, s4, s5])
  have n1 : (sc == 1) = false := by simpa using s1
  have n2 : (sc == 2) = false := by simpa using s2
  have n3 : (sc == 3) = false := by simpa using s3
  have n4 : (sc == 4) = false := by simpa using s4
  have n5 : (sc == 5) = false := by simpa using s5
  clear s1 s2 s3 s4 s5
  go_enter Try.func33, Try.ntmps33
  go_wp2_with fail
  go_at_call 46; refine (figureLog_c _ _ (by omega) (by omega) (by omega) (by omega) _).mono ?_; rintro e w1 ⟨rfl, hb1⟩; obtain ⟨hc1, hf1, hz1⟩ := bel hb1; (try simp only [World.size_drew, World.cell?_drew, World.frozen?_drew] at hc1 hf1 hz1); (try simp only [World.heap_drewN, World.cell?_drewN, World.frozen?_drewN] at hc1 hf1 hz1); (try have hl1 : w.heap.size < w1.heap.size := by (have hq := hb1.size; (try simp at hq); omega)); (try have hm1 : w.heap.size + 1 < w1.heap.size := by (have hq := hb1.size; (try simp at hq); omega)); (try have hn1 : w.heap.size + 1 + 1 < w1.heap.size := by (have hq := hb1.size; (try simp at hq); omega)); (try have hp1 : b < w1.heap.size := by (have hq := hb1.size; (try simp at hq); omega)); (try have ho1 : b' < w1.heap.size := by (have hq := hb1.size; (try simp at hq); omega))
  rw [G0.out.1, G0.out.2]
  generalize lgLo (d * 100000) = x at *
  generalize lgHi (d * 100000) = y at *
  go_wp2
  refine bodyPost_ret (v := .agg #[.int .i64 x, .int .i64 y]) (by simp [results, Try.results33, go_sem, *]) rfl ⟨by rw [HV.out.1, HV.out.2], by repeat (with_reducible first | exact Below.refl _ _ | assumption | refine Bel.alloc ?_ _ | refine Bel.step (by assumption) ?_ | refine Below.drew ?_ | refine Bel.drewN ?_ _ | refine Below.setCell ?_ (by first | exact Nat.le_refl _ | omega | (simp; done) | (simp; omega)) _)⟩
end Go.Proofs.Ytlphcpmneioogaa
