/- Chapter 23: places on the scales of a chart. Conditions: as stated at each contract. -/
import Derived.Test.YtpmcgicopogbhaaGreatProg
import Derived.Test.YtpmcgicopogbhaaGreatBase
import Derived.Test.YtpmcgicopogbhaaGreatZy
import Derived.Test.YtpmcgicopogbhaaGreatL01
import Derived.Test.YtpmcgicopogbhaaGreatCp
import Derived.Test.YtpmcgicopogbhaaGreatL18
import Derived.Test.YtpmcgicopogbhaaGreatL23
import Derived.Test.YtpmcgicopogbhaaGreatL03
import Derived.WalkKit
import Derived.WalkSpells
import Derived.WalkLawsBesides
import Derived.Lib.Hide
import Derived.Deep.QuietTactic
import Derived.BigQuiet
import Derived.Deep.Draws
import Derived.Deep.RegionHeld3
namespace Go.Proofs.YtpmcgicopogbhaaGreat
set_option linter.unusedSimpArgs false
open Go.RowKit
set_option linter.unusedVariables false
theorem Prs.mk1 (w : World) (T : TypeId) (a b : Int) : Prs (w.alloc (.cells #[.int .i64 a, .int .i64 b] T)) (some ⟨w.heap.size, 0, none⟩) [(a, b)] := by
  intro _
  refine ⟨w.heap.size, 0, rfl, by simp [go_sem], fun i hi => ?_⟩
  have : i = 0 := by simp at hi; omega
  subst this
  constructor <;> simp [go_sem]
theorem Prs.mk2 (w : World) (T : TypeId) (a b c d : Int) : Prs (w.alloc (.cells #[.int .i64 a, .int .i64 b, .int .i64 c, .int .i64 d] T)) (some ⟨w.heap.size, 0, none⟩) [(a, b), (c, d)] := by
  intro _
  refine ⟨w.heap.size, 0, rfl, by simp [go_sem], fun i hi => ?_⟩
  have : i = 0 ∨ i = 1 := by simp at hi; omega
  rcases this with rfl | rfl
  · constructor <;> simp [go_sem]
  · constructor <;> simp [go_sem]
theorem okFs_one (a b : Int) : okFs [(a, b)] = okF a b := by simp [okFs]
theorem okFs_two (a b c d : Int) : okFs [(a, b), (c, d)] = (okF a b && okF c d) := by simp [okFs]
/-- The numerator of a scale's modulus. -/
def cpN (C : Ch) (sc : Int) : Int := if sc = 0 then C.lf * P0 C else if sc = 1 then C.rt * P1 C else C.lf * C.rt
/-- Its denominator. -/
def cpD (C : Ch) (sc : Int) : Int := if sc = 2 then C.lf + C.rt else 1
/-- The logarithm that counts. -/
def cpA (C : Ch) (sc dg tn : Int) : Int := if sc = 2 then fgLo dg tn - fgHi C.dg C.tn else fgLo dg tn
def cpB (C : Ch) (sc dg tn : Int) : Int := if sc = 2 then fgHi dg tn - fgLo C.dg C.tn else fgHi dg tn
/-- The place on a scale. -/
def cpL (C : Ch) (sc dg tn : Int) : Int := Fl (mn (cpA C sc dg tn * cpN C sc) (cpB C sc dg tn * cpN C sc)) (cpD C sc * 1048576)
def cpH (C : Ch) (sc dg tn : Int) : Int := Cl (mx (cpA C sc dg tn * cpN C sc) (cpB C sc dg tn * cpN C sc)) (cpD C sc * 1048576)
def plC (C : Ch) (sc dg tn : Int) : Int := if inB (cpL C sc dg tn) (-100000) 100000 && inB (cpH C sc dg tn) (-100000) 100000 then 0 else 3
def plL (C : Ch) (sc dg tn : Int) : Int := if plC C sc dg tn = 0 then cpL C sc dg tn else 0
def plH (C : Ch) (sc dg tn : Int) : Int := if plC C sc dg tn = 0 then cpH C sc dg tn else 0
theorem cpN_bd {C : Ch} (h : okCh C = true) (sc : Int) : -400000000 ≤ cpN C sc ∧ cpN C sc ≤ 400000000 := by
  obtain ⟨_, _, _, ⟨a1, a2⟩, ⟨a3, a4⟩, ⟨_, u1, u2⟩, ⟨_, u3, u4⟩⟩ := okCh_iff h
  have m1 := mul_bd C.lf (P0 C) 20000 6 (by omega) a2 u1 u2
  have m2 := mul_bd C.rt (P1 C) 20000 6 (by omega) a4 u3 u4
  have m3 := mul_bd C.lf C.rt 20000 20000 (by omega) a2 (by omega) a4
  unfold cpN
  split
  · omega
  · split <;> omega
theorem cpD_bd {C : Ch} (h : okCh C = true) (sc : Int) : 1 ≤ cpD C sc ∧ cpD C sc ≤ 40000 := by
  obtain ⟨_, _, _, ⟨a1, a2⟩, ⟨a3, a4⟩, _, _⟩ := okCh_iff h
  unfold cpD; split <;> omega
theorem cpAB_bd {C : Ch} (h : okCh C = true) (sc : Int) {dg tn : Int} (hf : okF dg tn = true) : -100000000 ≤ cpA C sc dg tn ∧ cpA C sc dg tn ≤ 100000000 ∧ -100000000 ≤ cpB C sc dg tn ∧ cpB C sc dg tn ≤ 100000000 := by
  obtain ⟨⟨d1, d2, d3, d4⟩, _⟩ := okCh_iff h
  obtain ⟨f1, f2, f3, f4⟩ := okF_iff hf
  have a := fg_bd d1 d2 (by omega) (by omega : C.tn ≤ 40)
  have b := fg_bd f1 f2 (by omega) (by omega : tn ≤ 40)
  unfold cpA cpB
  split <;> omega
theorem cpP_bd {C : Ch} (h : okCh C = true) (sc : Int) {a : Int} (h1 : -100000000 ≤ a) (h2 : a ≤ 100000000) : -40000000000000000 ≤ a * cpN C sc ∧ a * cpN C sc ≤ 40000000000000000 := by
  obtain ⟨n1, n2⟩ := cpN_bd h sc
  have := mul_bd a (cpN C sc) 100000000 400000000 h1 h2 n1 n2
  omega
theorem sc_cases {sc : Int} (h : inB sc 0 2 = true) : sc = 0 ∨ sc = 1 ∨ sc = 2 := by
  obtain ⟨a, b⟩ := inB_iff.1 h
  omega
theorem l22Place_d (n : Int) (w : World) :
    Calls Tryz.prog 161 #[.int .i64 n] w fun e w' => e = .returned (.bool (inB n (-100000) 100000)) ∧ w = w' := by
  go_enter Tryz.func161, Tryz.ntmps161
  go_wp2_with (first | (go_at_call 55; refine (l01In_c _ _ _ _).mono ?_; rintro e w' ⟨rfl, rfl⟩))
  go_ret
  exact ⟨rfl, rfl⟩
theorem isPlace_d (n : Int) (w : World) :
    Calls Tryz.prog 158 #[.int .i64 n] w fun e w' => e = .returned (.bool (inB n (-100000) 100000)) ∧ w = w' := by
  go_enter Tryz.func158, Tryz.ntmps158
  go_wp2_with (first | (go_at_call 71; refine (within_c _ _ _ _).mono ?_; rintro e w' ⟨rfl, rfl⟩))
  go_ret
  exact ⟨rfl, rfl⟩
theorem l23Modulus_c (C : Ch) (A : Option Addr) (c : Nat) (sc : Int) (h : okCh C = true) (hs : inB sc 0 2 = true) (w : World) (hA : Ints w A C.zs) :
    Calls Tryz.prog 164 #[.agg #[.int .i64 C.dg, .int .i64 C.tn, .string C.nm, .slice A C.zs.length c, .int .i64 C.wd, .int .i64 C.lf, .int .i64 C.rt], .int .i64 sc] w fun r w' => r = .returned (.tuple #[.int .i64 (cpN C sc), .int .i64 (cpD C sc)]) ∧ Below w.heap.size w w' := by
  obtain ⟨n1, n2⟩ := cpN_bd h sc
  obtain ⟨_, ⟨hz, _⟩, _, ⟨a1, a2⟩, ⟨a3, a4⟩, ⟨_, u1, u2⟩, ⟨_, u3, u4⟩⟩ := okCh_iff h
  obtain ⟨b, o, rfl, hbb, hc0, hcc⟩ := hA.pows hz
  rcases sc_cases hs with rfl | rfl | rfl
  · have HV := Lib.hid (show cpN C 0 = C.lf * P0 C ∧ cpD C 0 = 1 from ⟨rfl, rfl⟩)
    rw [HV.out.1] at n1 n2
    have e1 : IntKind.i64.wrap (C.lf * P0 C) = C.lf * P0 C := wr64 (by omega) (by omega)
    go_enter Tryz.func164, Tryz.ntmps164
    go_wp2
    go_quiet (fail)
    go_wp2
    go_ret2
    exact ⟨by rw [HV.out.1, HV.out.2]; rfl, by repeat (with_reducible first | exact Below.refl _ _ | assumption | refine Bel.alloc ?_ _ | refine Bel.step (by assumption) ?_ | refine Below.drew ?_ | refine Bel.drewN ?_ _ | refine Below.setCell ?_ (by first | exact Nat.le_refl _ | omega | (simp; done) | (simp; omega)) _)⟩
  · have HV := Lib.hid (show cpN C 1 = C.rt * P1 C ∧ cpD C 1 = 1 from ⟨rfl, rfl⟩)
    rw [HV.out.1] at n1 n2
    have e1 : IntKind.i64.wrap (C.rt * P1 C) = C.rt * P1 C := wr64 (by omega) (by omega)
    go_enter Tryz.func164, Tryz.ntmps164
    go_wp2
    go_quiet (fail)
    go_wp2
    go_ret2
    exact ⟨by rw [HV.out.1, HV.out.2]; rfl, by repeat (with_reducible first | exact Below.refl _ _ | assumption | refine Bel.alloc ?_ _ | refine Bel.step (by assumption) ?_ | refine Below.drew ?_ | refine Bel.drewN ?_ _ | refine Below.setCell ?_ (by first | exact Nat.le_refl _ | omega | (simp; done) | (simp; omega)) _)⟩
  · have HV := Lib.hid (show cpN C 2 = C.lf * C.rt ∧ cpD C 2 = C.lf + C.rt from ⟨rfl, rfl⟩)
    rw [HV.out.1] at n1 n2
    have e1 : IntKind.i64.wrap (C.lf * C.rt) = C.lf * C.rt := wr64 (by omega) (by omega)
    go_enter Tryz.func164, Tryz.ntmps164
    go_wp2
    go_quiet (fail)
    go_wp2
    go_ret2
    exact ⟨by rw [HV.out.1, HV.out.2]; rfl, by repeat (with_reducible first | exact Below.refl _ _ | assumption | refine Bel.alloc ?_ _ | refine Bel.step (by assumption) ?_ | refine Below.drew ?_ | refine Bel.drewN ?_ _ | refine Below.setCell ?_ (by first | exact Nat.le_refl _ | omega | (simp; done) | (simp; omega)) _)⟩
theorem l23Log_c (C : Ch) (A : Option Addr) (c : Nat) (sc dg tn : Int) (h : okCh C = true) (hf : okF dg tn = true) (w : World) :
    Calls Tryz.prog 160 #[.agg #[.int .i64 C.dg, .int .i64 C.tn, .string C.nm, .slice A C.zs.length c, .int .i64 C.wd, .int .i64 C.lf, .int .i64 C.rt], .int .i64 sc, .agg #[.int .i64 dg, .int .i64 tn]] w fun r w' => r = .returned (.agg #[.int .i64 (cpA C sc dg tn), .int .i64 (cpB C sc dg tn)]) ∧ Below w.heap.size w w' := by
  obtain ⟨⟨d1, d2, d3, d4⟩, _⟩ := okCh_iff h
  obtain ⟨f1, f2, f3, f4⟩ := okF_iff hf
  have a := fg_bd d1 d2 (by omega) (by omega : C.tn ≤ 40)
  have b := fg_bd f1 f2 (by omega) (by omega : tn ≤ 40)
  by_cases hs : sc = 2
  · have HV := Lib.hid (show cpA C sc dg tn = fgLo dg tn - fgHi C.dg C.tn ∧ cpB C sc dg tn = fgHi dg tn - fgLo C.dg C.tn by simp [cpA, cpB, hs])
    have b2 : (sc == 2) = true := by simp [hs]
    clear hs
    go_enter Tryz.func160, Tryz.ntmps160
    go_wp2
    go_region_held3 (fun w' => w'.cell? ⟨w.heap.size + 1, 0, none⟩ = some (.int .i64 dg) ∧ w'.cell? ⟨w.heap.size + 1, 1, none⟩ = some (.int .i64 tn) ∧ w'.cell? ⟨w.heap.size, 0, none⟩ = some (.int .i64 C.dg) ∧ w'.cell? ⟨w.heap.size, 1, none⟩ = some (.int .i64 C.tn)) (simp [go_sem, *])
        (first | (go_at_call 111; refine (l03Figure_c _ _ (by omega) (by omega) (by omega) (by omega) _).mono ?_; rintro e w1 ⟨rfl, hb1⟩; obtain ⟨hc1, hf1, hz1⟩ := bel hb1; (try simp only [World.size_drew, World.cell?_drew, World.frozen?_drew, World.heap_drewN, World.cell?_drewN, World.frozen?_drewN] at hc1 hf1 hz1); (try have hl1 : w.heap.size < w1.heap.size := zl hb1); (try have hm1 : w.heap.size + 1 < w1.heap.size := zl hb1); (try have hn1 : w.heap.size + 1 + 1 < w1.heap.size := zl hb1); (try have hp1 : b < w1.heap.size := zl hb1); (try have ho1 : b' < w1.heap.size := by (have hq := hb1.size; (try simp at hq); omega))) | (go_at_call 165; refine (l03Sub_c _ _ _ _ (by omega) (by omega) (by omega) (by omega) (by omega) (by omega) (by omega) (by omega) _).mono ?_; rintro e w1 ⟨rfl, hb1⟩; obtain ⟨hc1, hf1, hz1⟩ := bel hb1; (try simp only [World.size_drew, World.cell?_drew, World.frozen?_drew, World.heap_drewN, World.cell?_drewN, World.frozen?_drewN] at hc1 hf1 hz1); (try have hl1 : w.heap.size < w1.heap.size := zl hb1); (try have hm1 : w.heap.size + 1 < w1.heap.size := zl hb1); (try have hn1 : w.heap.size + 1 + 1 < w1.heap.size := zl hb1); (try have hp1 : b < w1.heap.size := zl hb1); (try have ho1 : b' < w1.heap.size := by (have hq := hb1.size; (try simp at hq); omega))))
    all_goals
      go_wp2
      refine bodyPost_ret (v := .agg #[.int .i64 (fgLo dg tn - fgHi C.dg C.tn), .int .i64 (fgHi dg tn - fgLo C.dg C.tn)]) (by simp [results, Tryz.results160, go_sem, *]) rfl ⟨by rw [HV.out.1, HV.out.2], by repeat (with_reducible first | exact Below.refl _ _ | assumption | refine Bel.alloc ?_ _ | refine Bel.step (by assumption) ?_ | refine Below.drew ?_ | refine Bel.drewN ?_ _ | refine Below.setCell ?_ (by first | exact Nat.le_refl _ | omega | (simp; done) | (simp; omega)) _)⟩
  · have HV := Lib.hid (show cpA C sc dg tn = fgLo dg tn ∧ cpB C sc dg tn = fgHi dg tn by simp [cpA, cpB, hs])
    have b2 : (sc == 2) = false := by simp [hs]
    clear hs
    go_enter Tryz.func160, Tryz.ntmps160
    go_wp2_with (first | (go_at_call 111; refine (l03Figure_c _ _ (by omega) (by omega) (by omega) (by omega) _).mono ?_; rintro e w1 ⟨rfl, hb1⟩; obtain ⟨hc1, hf1, hz1⟩ := bel hb1; (try simp only [World.size_drew, World.cell?_drew, World.frozen?_drew, World.heap_drewN, World.cell?_drewN, World.frozen?_drewN] at hc1 hf1 hz1); (try have hl1 : w.heap.size < w1.heap.size := zl hb1); (try have hm1 : w.heap.size + 1 < w1.heap.size := zl hb1); (try have hn1 : w.heap.size + 1 + 1 < w1.heap.size := zl hb1); (try have hp1 : b < w1.heap.size := zl hb1); (try have ho1 : b' < w1.heap.size := by (have hq := hb1.size; (try simp at hq); omega))))
    refine bodyPost_ret (v := .agg #[.int .i64 (fgLo dg tn), .int .i64 (fgHi dg tn)]) (by simp [results, Tryz.results160, go_sem, *]) rfl ⟨by rw [HV.out.1, HV.out.2], by repeat (with_reducible first | exact Below.refl _ _ | assumption | refine Bel.alloc ?_ _ | refine Bel.step (by assumption) ?_ | refine Below.drew ?_ | refine Bel.drewN ?_ _ | refine Below.setCell ?_ (by first | exact Nat.le_refl _ | omega | (simp; done) | (simp; omega)) _)⟩
theorem mn_le {a b : Int} (h : a ≤ b) : mn a b = a := by simp [mn, h]
theorem mn_gt {a b : Int} (h : ¬ a ≤ b) : mn a b = b := by simp [mn, h]
theorem mx_le {a b : Int} (h : a ≤ b) : mx a b = b := by simp [mx, h]
theorem mx_gt {a b : Int} (h : ¬ a ≤ b) : mx a b = a := by simp [mx, h]
theorem mn_ge {a b : Int} (h : b ≤ a) : mn a b = b := by unfold mn; split <;> omega
theorem mx_ge {a b : Int} (h : b ≤ a) : mx a b = a := by unfold mx; split <;> omega
theorem mn_bd {a b B : Int} (h1 : -B ≤ a) (h2 : a ≤ B) (h3 : -B ≤ b) (h4 : b ≤ B) : -B ≤ mn a b ∧ mn a b ≤ B := by unfold mn; split <;> omega
theorem mx_bd {a b B : Int} (h1 : -B ≤ a) (h2 : a ≤ B) (h3 : -B ≤ b) (h4 : b ≤ B) : -B ≤ mx a b ∧ mx a b ≤ B := by unfold mx; split <;> omega
theorem l23Scale_c (C : Ch) (A : Option Addr) (c : Nat) (sc a b : Int) (h : okCh C = true) (hs : inB sc 0 2 = true) (ha1 : -100000000 ≤ a) (ha2 : a ≤ 100000000) (hb1 : -100000000 ≤ b) (hb2 : b ≤ 100000000) (w : World) (hA : Ints w A C.zs) :
    Calls Tryz.prog 159 #[.agg #[.int .i64 C.dg, .int .i64 C.tn, .string C.nm, .slice A C.zs.length c, .int .i64 C.wd, .int .i64 C.lf, .int .i64 C.rt], .int .i64 sc, .agg #[.int .i64 a, .int .i64 b]] w fun r w' => r = .returned (.agg #[.int .i64 (Fl (mn (a * cpN C sc) (b * cpN C sc)) (cpD C sc * 1048576)), .int .i64 (Cl (mx (a * cpN C sc) (b * cpN C sc)) (cpD C sc * 1048576))]) ∧ Below w.heap.size w w' := by
  obtain ⟨n1, n2⟩ := cpN_bd h sc
  obtain ⟨d1, d2⟩ := cpD_bd h sc
  obtain ⟨p1, p2⟩ := cpP_bd h sc ha1 ha2
  obtain ⟨p3, p4⟩ := cpP_bd h sc hb1 hb2
  have e1 : IntKind.i64.wrap (a * cpN C sc) = a * cpN C sc := wr64 (by omega) (by omega)
  have e2 : IntKind.i64.wrap (b * cpN C sc) = b * cpN C sc := wr64 (by omega) (by omega)
  go_enter Tryz.func159, Tryz.ntmps159
  go_wp2_with fail
  go_at_call 164; refine (l23Modulus_c _ _ _ _ h hs _ (Ints.alloc _ (Ints.alloc _ (Ints.alloc _ hA)))).mono ?_; rintro e w1 ⟨rfl, hb1⟩; obtain ⟨hc1, hf1, hz1⟩ := bel hb1; (try simp only [World.size_drew, World.cell?_drew, World.frozen?_drew, World.heap_drewN, World.cell?_drewN, World.frozen?_drewN] at hc1 hf1 hz1); (try have hl1 : w.heap.size < w1.heap.size := zl hb1); (try have hm1 : w.heap.size + 1 < w1.heap.size := zl hb1); (try have hn1 : w.heap.size + 1 + 1 < w1.heap.size := zl hb1); (try have hp1 : b < w1.heap.size := zl hb1); (try have ho1 : b' < w1.heap.size := by (have hq := hb1.size; (try simp at hq); omega))
  go_wp2
  go_quiet (fail)
  by_cases hm : a * cpN C sc < b * cpN C sc
  · have HM := Lib.hid (And.intro (mn_le (Int.le_of_lt hm)) (mx_le (Int.le_of_lt hm)))
    go_wp2_with (first | (go_at_call 135; refine (l01Floor_c _ _ (by omega) (by omega) (by omega) (by omega) (by omega) _).mono ?_; rintro e w' ⟨rfl, rfl⟩) | (go_at_call 99; refine (l01Ceil_c _ _ (by omega) (by omega) (by omega) (by omega) (by omega) _).mono ?_; rintro e w' ⟨rfl, rfl⟩))
    all_goals
      refine bodyPost_ret (v := .agg #[.int .i64 (Fl (a * cpN C sc) (cpD C sc * 1048576)), .int .i64 (Cl (b * cpN C sc) (cpD C sc * 1048576))]) (by simp [results, Tryz.results159, go_sem, *]) rfl ⟨by rw [HM.out.1, HM.out.2], by repeat (with_reducible first | exact Below.refl _ _ | assumption | refine Bel.alloc ?_ _ | refine Bel.step (by assumption) ?_ | refine Below.drew ?_ | refine Bel.drewN ?_ _ | refine Below.setCell ?_ (by first | exact Nat.le_refl _ | omega | (simp; done) | (simp; omega)) _)⟩
  · by_cases hg : b * cpN C sc < a * cpN C sc
    · have HM := Lib.hid (And.intro (mn_ge (Int.le_of_lt hg)) (mx_ge (Int.le_of_lt hg)))
      clear hm
      go_wp2_with (first | (go_at_call 135; refine (l01Floor_c _ _ (by omega) (by omega) (by omega) (by omega) (by omega) _).mono ?_; rintro e w' ⟨rfl, rfl⟩) | (go_at_call 99; refine (l01Ceil_c _ _ (by omega) (by omega) (by omega) (by omega) (by omega) _).mono ?_; rintro e w' ⟨rfl, rfl⟩))
      all_goals
        refine bodyPost_ret (v := .agg #[.int .i64 (Fl (b * cpN C sc) (cpD C sc * 1048576)), .int .i64 (Cl (a * cpN C sc) (cpD C sc * 1048576))]) (by simp [results, Tryz.results159, go_sem, *]) rfl ⟨by rw [HM.out.1, HM.out.2], by repeat (with_reducible first | exact Below.refl _ _ | assumption | refine Bel.alloc ?_ _ | refine Bel.step (by assumption) ?_ | refine Below.drew ?_ | refine Bel.drewN ?_ _ | refine Below.setCell ?_ (by first | exact Nat.le_refl _ | omega | (simp; done) | (simp; omega)) _)⟩
    · have he : b * cpN C sc = a * cpN C sc := by omega
      have HM := Lib.hid (show mn (a * cpN C sc) (b * cpN C sc) = a * cpN C sc ∧ mx (a * cpN C sc) (b * cpN C sc) = a * cpN C sc by rw [he]; simp [mn, mx])
      clear hm hg p3 p4
      rw [he] at e2 ⊢
      clear e2
      go_wp2_with (first | (go_at_call 135; refine (l01Floor_c _ _ (by omega) (by omega) (by omega) (by omega) (by omega) _).mono ?_; rintro e w' ⟨rfl, rfl⟩) | (go_at_call 99; refine (l01Ceil_c _ _ (by omega) (by omega) (by omega) (by omega) (by omega) _).mono ?_; rintro e w' ⟨rfl, rfl⟩))
      all_goals
        refine bodyPost_ret (v := .agg #[.int .i64 (Fl (a * cpN C sc) (cpD C sc * 1048576)), .int .i64 (Cl (a * cpN C sc) (cpD C sc * 1048576))]) (by simp [results, Tryz.results159, go_sem, *]) rfl ⟨by rw [HM.out.1, HM.out.2], by repeat (with_reducible first | exact Below.refl _ _ | assumption | refine Bel.alloc ?_ _ | refine Bel.step (by assumption) ?_ | refine Below.drew ?_ | refine Bel.drewN ?_ _ | refine Below.setCell ?_ (by first | exact Nat.le_refl _ | omega | (simp; done) | (simp; omega)) _)⟩
/-- The code of a chart, a scale and figures. -/
def ckC (C : Ch) (sc : Int) (ok : Bool) : Int := if okCh C && ok then (if inB sc 0 2 then 0 else 2) else 1
theorem ckC_0 {C : Ch} {sc : Int} {ok : Bool} (h : ckC C sc ok = 0) : okCh C = true ∧ ok = true ∧ inB sc 0 2 = true := by
  unfold ckC at h
  cases h1 : okCh C <;> cases ok <;> cases h2 : inB sc 0 2 <;> simp_all
/-- The place, with the code. -/
def cqC (C : Ch) (sc dg tn : Int) : Int := if ckC C sc (okF dg tn) = 0 then plC C sc dg tn else ckC C sc (okF dg tn)
def cqL (C : Ch) (sc dg tn : Int) : Int := if cqC C sc dg tn = 0 then cpL C sc dg tn else 0
def cqH (C : Ch) (sc dg tn : Int) : Int := if cqC C sc dg tn = 0 then cpH C sc dg tn else 0
theorem cq_no {C : Ch} {sc dg tn : Int} (h : ckC C sc (okF dg tn) ≠ 0) : cqC C sc dg tn = ckC C sc (okF dg tn) ∧ cqL C sc dg tn = 0 ∧ cqH C sc dg tn = 0 := by
  have e : cqC C sc dg tn = ckC C sc (okF dg tn) := by simp [cqC, h]
  exact ⟨e, by simp [cqL, e, h], by simp [cqH, e, h]⟩
theorem cq_pl {C : Ch} {sc dg tn : Int} (h : ckC C sc (okF dg tn) = 0) : cqC C sc dg tn = plC C sc dg tn ∧ cqL C sc dg tn = plL C sc dg tn ∧ cqH C sc dg tn = plH C sc dg tn := by
  have e : cqC C sc dg tn = plC C sc dg tn := by simp [cqC, h]
  exact ⟨e, by simp [cqL, plL, e], by simp [cqH, plH, e]⟩
theorem pl_cases (C : Ch) (sc dg tn : Int) :
    (inB (cpL C sc dg tn) (-100000) 100000 = true ∧ inB (cpH C sc dg tn) (-100000) 100000 = true ∧ Hid (plC C sc dg tn = 0 ∧ plL C sc dg tn = cpL C sc dg tn ∧ plH C sc dg tn = cpH C sc dg tn)) ∨
    (inB (cpL C sc dg tn) (-100000) 100000 = true ∧ inB (cpH C sc dg tn) (-100000) 100000 = false ∧ Hid (plC C sc dg tn = 3 ∧ plL C sc dg tn = 0 ∧ plH C sc dg tn = 0)) ∨
    (inB (cpL C sc dg tn) (-100000) 100000 = false ∧ Hid (plC C sc dg tn = 3 ∧ plL C sc dg tn = 0 ∧ plH C sc dg tn = 0)) := by
  unfold Hid plL plH plC
  cases inB (cpL C sc dg tn) (-100000) 100000 <;> cases inB (cpH C sc dg tn) (-100000) 100000 <;> simp
theorem l23Code_c (C : Ch) (A : Option Addr) (c : Nat) (sc dg tn : Int) (hn : C.zs.length ≤ 1048576) (hs : C.nm.size ≤ 1048576) (w : World) (hA : Ints w A C.zs) :
    Calls Tryz.prog 120 #[.agg #[.int .i64 C.dg, .int .i64 C.tn, .string C.nm, .slice A C.zs.length c, .int .i64 C.wd, .int .i64 C.lf, .int .i64 C.rt], .int .i64 sc, .agg #[.int .i64 dg, .int .i64 tn]] w fun r w' => r = .returned (.int .i64 (ckC C sc (okF dg tn))) ∧ Below w.heap.size w w' := by
  by_cases h1 : okCh C = true
  · by_cases h2 : okF dg tn = true
    · by_cases h3 : inB sc 0 2 = true
      · have HV := Lib.hid (show ckC C sc (okF dg tn) = 0 by simp [ckC, h1, h2, h3])
        go_enter Tryz.func120, Tryz.ntmps120
        go_wp2_with fail
        go_at_call 54; refine (IsChart_S _ _ _ hn hs _ (Ints.alloc _ (Ints.alloc _ hA))).mono ?_; rintro e w1 ⟨rfl, hb1⟩; obtain ⟨hc1, hf1, hz1⟩ := bel hb1; (try simp only [World.size_drew, World.cell?_drew, World.frozen?_drew, World.heap_drewN, World.cell?_drewN, World.frozen?_drewN] at hc1 hf1 hz1); (try have hl1 : w.heap.size < w1.heap.size := zl hb1); (try have hm1 : w.heap.size + 1 < w1.heap.size := zl hb1); (try have hn1 : w.heap.size + 1 + 1 < w1.heap.size := zl hb1); (try have hp1 : b < w1.heap.size := zl hb1); (try have ho1 : b' < w1.heap.size := by (have hq := hb1.size; (try simp at hq); omega))
        go_wp2_with (first | (go_at_call 68; refine (IsFigure_S _ _ _).mono ?_; rintro e w1 ⟨rfl, hb1⟩; obtain ⟨hc1, hf1, hz1⟩ := bel hb1; (try simp only [World.size_drew, World.cell?_drew, World.frozen?_drew, World.heap_drewN, World.cell?_drewN, World.frozen?_drewN] at hc1 hf1 hz1); (try have hl1 : w.heap.size < w1.heap.size := zl hb1); (try have hm1 : w.heap.size + 1 < w1.heap.size := zl hb1); (try have hn1 : w.heap.size + 1 + 1 < w1.heap.size := zl hb1); (try have hp1 : b < w1.heap.size := zl hb1); (try have ho1 : b' < w1.heap.size := by (have hq := hb1.size; (try simp at hq); omega))) | (go_at_call 55; refine (l01In_c _ _ _ _).mono ?_; rintro e w' ⟨rfl, rfl⟩))
        go_ret
        exact ⟨ret_int HV.out.symm, by repeat (with_reducible first | exact Below.refl _ _ | assumption | refine Bel.alloc ?_ _ | refine Bel.step (by assumption) ?_ | refine Below.drew ?_ | refine Bel.drewN ?_ _ | refine Below.setCell ?_ (by first | exact Nat.le_refl _ | omega | (simp; done) | (simp; omega)) _)⟩
      · have h3' : inB sc 0 2 = false := by simpa using h3
        have HV := Lib.hid (show ckC C sc (okF dg tn) = 2 by simp [ckC, h1, h2, h3'])
        clear h3
        go_enter Tryz.func120, Tryz.ntmps120
        go_wp2_with fail
        go_at_call 54; refine (IsChart_S _ _ _ hn hs _ (Ints.alloc _ (Ints.alloc _ hA))).mono ?_; rintro e w1 ⟨rfl, hb1⟩; obtain ⟨hc1, hf1, hz1⟩ := bel hb1; (try simp only [World.size_drew, World.cell?_drew, World.frozen?_drew, World.heap_drewN, World.cell?_drewN, World.frozen?_drewN] at hc1 hf1 hz1); (try have hl1 : w.heap.size < w1.heap.size := zl hb1); (try have hm1 : w.heap.size + 1 < w1.heap.size := zl hb1); (try have hn1 : w.heap.size + 1 + 1 < w1.heap.size := zl hb1); (try have hp1 : b < w1.heap.size := zl hb1); (try have ho1 : b' < w1.heap.size := by (have hq := hb1.size; (try simp at hq); omega))
        go_wp2_with (first | (go_at_call 68; refine (IsFigure_S _ _ _).mono ?_; rintro e w1 ⟨rfl, hb1⟩; obtain ⟨hc1, hf1, hz1⟩ := bel hb1; (try simp only [World.size_drew, World.cell?_drew, World.frozen?_drew, World.heap_drewN, World.cell?_drewN, World.frozen?_drewN] at hc1 hf1 hz1); (try have hl1 : w.heap.size < w1.heap.size := zl hb1); (try have hm1 : w.heap.size + 1 < w1.heap.size := zl hb1); (try have hn1 : w.heap.size + 1 + 1 < w1.heap.size := zl hb1); (try have hp1 : b < w1.heap.size := zl hb1); (try have ho1 : b' < w1.heap.size := by (have hq := hb1.size; (try simp at hq); omega))) | (go_at_call 55; refine (l01In_c _ _ _ _).mono ?_; rintro e w' ⟨rfl, rfl⟩))
        go_ret
        exact ⟨ret_int HV.out.symm, by repeat (with_reducible first | exact Below.refl _ _ | assumption | refine Bel.alloc ?_ _ | refine Bel.step (by assumption) ?_ | refine Below.drew ?_ | refine Bel.drewN ?_ _ | refine Below.setCell ?_ (by first | exact Nat.le_refl _ | omega | (simp; done) | (simp; omega)) _)⟩
    · have h2' : okF dg tn = false := by simpa using h2
      have HV := Lib.hid (show ckC C sc (okF dg tn) = 1 by simp [ckC, h2'])
      clear h2
      go_enter Tryz.func120, Tryz.ntmps120
      go_wp2_with fail
      go_at_call 54; refine (IsChart_S _ _ _ hn hs _ (Ints.alloc _ (Ints.alloc _ hA))).mono ?_; rintro e w1 ⟨rfl, hb1⟩; obtain ⟨hc1, hf1, hz1⟩ := bel hb1; (try simp only [World.size_drew, World.cell?_drew, World.frozen?_drew, World.heap_drewN, World.cell?_drewN, World.frozen?_drewN] at hc1 hf1 hz1); (try have hl1 : w.heap.size < w1.heap.size := zl hb1); (try have hm1 : w.heap.size + 1 < w1.heap.size := zl hb1); (try have hn1 : w.heap.size + 1 + 1 < w1.heap.size := zl hb1); (try have hp1 : b < w1.heap.size := zl hb1); (try have ho1 : b' < w1.heap.size := by (have hq := hb1.size; (try simp at hq); omega))
      go_wp2_with (first | (go_at_call 68; refine (IsFigure_S _ _ _).mono ?_; rintro e w1 ⟨rfl, hb1⟩; obtain ⟨hc1, hf1, hz1⟩ := bel hb1; (try simp only [World.size_drew, World.cell?_drew, World.frozen?_drew, World.heap_drewN, World.cell?_drewN, World.frozen?_drewN] at hc1 hf1 hz1); (try have hl1 : w.heap.size < w1.heap.size := zl hb1); (try have hm1 : w.heap.size + 1 < w1.heap.size := zl hb1); (try have hn1 : w.heap.size + 1 + 1 < w1.heap.size := zl hb1); (try have hp1 : b < w1.heap.size := zl hb1); (try have ho1 : b' < w1.heap.size := by (have hq := hb1.size; (try simp at hq); omega))))
      go_ret
      exact ⟨ret_int HV.out.symm, by repeat (with_reducible first | exact Below.refl _ _ | assumption | refine Bel.alloc ?_ _ | refine Bel.step (by assumption) ?_ | refine Below.drew ?_ | refine Bel.drewN ?_ _ | refine Below.setCell ?_ (by first | exact Nat.le_refl _ | omega | (simp; done) | (simp; omega)) _)⟩
  · have h1' : okCh C = false := by simpa using h1
    have HV := Lib.hid (show ckC C sc (okF dg tn) = 1 by simp [ckC, h1'])
    clear h1
    go_enter Tryz.func120, Tryz.ntmps120
    go_wp2_with fail
    go_at_call 54; refine (IsChart_S _ _ _ hn hs _ (Ints.alloc _ (Ints.alloc _ hA))).mono ?_; rintro e w1 ⟨rfl, hb1⟩; obtain ⟨hc1, hf1, hz1⟩ := bel hb1; (try simp only [World.size_drew, World.cell?_drew, World.frozen?_drew, World.heap_drewN, World.cell?_drewN, World.frozen?_drewN] at hc1 hf1 hz1); (try have hl1 : w.heap.size < w1.heap.size := zl hb1); (try have hm1 : w.heap.size + 1 < w1.heap.size := zl hb1); (try have hn1 : w.heap.size + 1 + 1 < w1.heap.size := zl hb1); (try have hp1 : b < w1.heap.size := zl hb1); (try have ho1 : b' < w1.heap.size := by (have hq := hb1.size; (try simp at hq); omega))
    go_wp2
    go_ret
    exact ⟨ret_int HV.out.symm, by repeat (with_reducible first | exact Below.refl _ _ | assumption | refine Bel.alloc ?_ _ | refine Bel.step (by assumption) ?_ | refine Below.drew ?_ | refine Bel.drewN ?_ _ | refine Below.setCell ?_ (by first | exact Nat.le_refl _ | omega | (simp; done) | (simp; omega)) _)⟩
theorem checkChart_c (C : Ch) (A : Option Addr) (c : Nat) (x : Int) (B : Option Addr) (d : Nat) (ps : List (Int × Int)) (hn : C.zs.length ≤ 1048576) (hs : C.nm.size ≤ 1048576) (hp : ps.length ≤ 1048576) (w : World) (hA : Ints w A C.zs) (hB : Prs w B ps) :
    Calls Tryz.prog 93 #[.agg #[.int .i64 C.dg, .int .i64 C.tn, .string C.nm, .slice A C.zs.length c, .int .i64 C.wd, .int .i64 C.lf, .int .i64 C.rt], .int .i64 x, .slice B ps.length d] w fun e w' => e = .returned (.int .i64 (ckC C x (okFs ps))) ∧ Below w.heap.size w w' := by
  by_cases h1 : okCh C = true
  · by_cases h2 : okFs ps = true
    · by_cases h3 : inB x 0 2 = true
      · have HV := Lib.hid (show ckC C x (okFs ps) = 0 by simp [ckC, h1, h2, h3])
        go_enter Tryz.func93, Tryz.ntmps93
        go_wp2_with fail
        go_at_call 69; refine (IsChart_I _ _ _ hn hs _ (Ints.alloc _ hA)).mono ?_; rintro e w1 ⟨rfl, hb1⟩; obtain ⟨hc1, hf1, hz1⟩ := bel hb1; (try simp only [World.size_drew, World.cell?_drew, World.frozen?_drew, World.heap_drewN, World.cell?_drewN, World.frozen?_drewN] at hc1 hf1 hz1); (try have hl1 : w.heap.size < w1.heap.size := zl hb1); (try have hm1 : w.heap.size + 1 < w1.heap.size := zl hb1); (try have hn1 : w.heap.size + 1 + 1 < w1.heap.size := zl hb1); (try have hp1 : b < w1.heap.size := zl hb1); (try have ho1 : b' < w1.heap.size := by (have hq := hb1.size; (try simp at hq); omega))
        have hB1 := Prs.step hb1 (Prs.alloc _ hB)
        go_wp2_with fail
        go_at_call 70; refine (areFigures_c _ _ _ hp _ hB1).mono ?_; rintro e w2 ⟨rfl, hb2⟩; obtain ⟨hc2, hf2, hz2⟩ := bel hb2; (try simp only [World.size_drew, World.cell?_drew, World.frozen?_drew, World.heap_drewN, World.cell?_drewN, World.frozen?_drewN] at hc2 hf2 hz2); (try have hl2 : w.heap.size < w2.heap.size := zl hb2); (try have hm2 : w.heap.size + 1 < w2.heap.size := zl hb2); (try have hn2 : w.heap.size + 1 + 1 < w2.heap.size := zl hb2); (try have hp2 : b < w2.heap.size := zl hb2); (try have ho2 : b' < w2.heap.size := by (have hq := hb2.size; (try simp at hq); omega))
        go_wp2_with (first | (go_at_call 71; refine (within_c _ _ _ _).mono ?_; rintro e w' ⟨rfl, rfl⟩))
        go_ret
        exact ⟨ret_int HV.out.symm, by repeat (with_reducible first | exact Below.refl _ _ | assumption | refine Bel.alloc ?_ _ | refine Bel.step (by assumption) ?_ | refine Below.drew ?_ | refine Bel.drewN ?_ _ | refine Below.setCell ?_ (by first | exact Nat.le_refl _ | omega | (simp; done) | (simp; omega)) _)⟩
      · have h3' : inB x 0 2 = false := by simpa using h3
        have HV := Lib.hid (show ckC C x (okFs ps) = 2 by simp [ckC, h1, h2, h3'])
        clear h3
        go_enter Tryz.func93, Tryz.ntmps93
        go_wp2_with fail
        go_at_call 69; refine (IsChart_I _ _ _ hn hs _ (Ints.alloc _ hA)).mono ?_; rintro e w1 ⟨rfl, hb1⟩; obtain ⟨hc1, hf1, hz1⟩ := bel hb1; (try simp only [World.size_drew, World.cell?_drew, World.frozen?_drew, World.heap_drewN, World.cell?_drewN, World.frozen?_drewN] at hc1 hf1 hz1); (try have hl1 : w.heap.size < w1.heap.size := zl hb1); (try have hm1 : w.heap.size + 1 < w1.heap.size := zl hb1); (try have hn1 : w.heap.size + 1 + 1 < w1.heap.size := zl hb1); (try have hp1 : b < w1.heap.size := zl hb1); (try have ho1 : b' < w1.heap.size := by (have hq := hb1.size; (try simp at hq); omega))
        have hB1 := Prs.step hb1 (Prs.alloc _ hB)
        go_wp2_with fail
        go_at_call 70; refine (areFigures_c _ _ _ hp _ hB1).mono ?_; rintro e w2 ⟨rfl, hb2⟩; obtain ⟨hc2, hf2, hz2⟩ := bel hb2; (try simp only [World.size_drew, World.cell?_drew, World.frozen?_drew, World.heap_drewN, World.cell?_drewN, World.frozen?_drewN] at hc2 hf2 hz2); (try have hl2 : w.heap.size < w2.heap.size := zl hb2); (try have hm2 : w.heap.size + 1 < w2.heap.size := zl hb2); (try have hn2 : w.heap.size + 1 + 1 < w2.heap.size := zl hb2); (try have hp2 : b < w2.heap.size := zl hb2); (try have ho2 : b' < w2.heap.size := by (have hq := hb2.size; (try simp at hq); omega))
        go_wp2_with (first | (go_at_call 71; refine (within_c _ _ _ _).mono ?_; rintro e w' ⟨rfl, rfl⟩))
        go_ret
        exact ⟨ret_int HV.out.symm, by repeat (with_reducible first | exact Below.refl _ _ | assumption | refine Bel.alloc ?_ _ | refine Bel.step (by assumption) ?_ | refine Below.drew ?_ | refine Bel.drewN ?_ _ | refine Below.setCell ?_ (by first | exact Nat.le_refl _ | omega | (simp; done) | (simp; omega)) _)⟩
    · have h2' : okFs ps = false := by simpa using h2
      have HV := Lib.hid (show ckC C x (okFs ps) = 1 by simp [ckC, h2'])
      clear h2
      go_enter Tryz.func93, Tryz.ntmps93
      go_wp2_with fail
      go_at_call 69; refine (IsChart_I _ _ _ hn hs _ (Ints.alloc _ hA)).mono ?_; rintro e w1 ⟨rfl, hb1⟩; obtain ⟨hc1, hf1, hz1⟩ := bel hb1; (try simp only [World.size_drew, World.cell?_drew, World.frozen?_drew, World.heap_drewN, World.cell?_drewN, World.frozen?_drewN] at hc1 hf1 hz1); (try have hl1 : w.heap.size < w1.heap.size := zl hb1); (try have hm1 : w.heap.size + 1 < w1.heap.size := zl hb1); (try have hn1 : w.heap.size + 1 + 1 < w1.heap.size := zl hb1); (try have hp1 : b < w1.heap.size := zl hb1); (try have ho1 : b' < w1.heap.size := by (have hq := hb1.size; (try simp at hq); omega))
      have hB1 := Prs.step hb1 (Prs.alloc _ hB)
      go_wp2_with fail
      go_at_call 70; refine (areFigures_c _ _ _ hp _ hB1).mono ?_; rintro e w2 ⟨rfl, hb2⟩; obtain ⟨hc2, hf2, hz2⟩ := bel hb2; (try simp only [World.size_drew, World.cell?_drew, World.frozen?_drew, World.heap_drewN, World.cell?_drewN, World.frozen?_drewN] at hc2 hf2 hz2); (try have hl2 : w.heap.size < w2.heap.size := zl hb2); (try have hm2 : w.heap.size + 1 < w2.heap.size := zl hb2); (try have hn2 : w.heap.size + 1 + 1 < w2.heap.size := zl hb2); (try have hp2 : b < w2.heap.size := zl hb2); (try have ho2 : b' < w2.heap.size := by (have hq := hb2.size; (try simp at hq); omega))
      go_wp2
      go_ret
      exact ⟨ret_int HV.out.symm, by repeat (with_reducible first | exact Below.refl _ _ | assumption | refine Bel.alloc ?_ _ | refine Bel.step (by assumption) ?_ | refine Below.drew ?_ | refine Bel.drewN ?_ _ | refine Below.setCell ?_ (by first | exact Nat.le_refl _ | omega | (simp; done) | (simp; omega)) _)⟩
  · have h1' : okCh C = false := by simpa using h1
    have HV := Lib.hid (show ckC C x (okFs ps) = 1 by simp [ckC, h1'])
    clear h1
    go_enter Tryz.func93, Tryz.ntmps93
    go_wp2_with fail
    go_at_call 69; refine (IsChart_I _ _ _ hn hs _ (Ints.alloc _ hA)).mono ?_; rintro e w1 ⟨rfl, hb1⟩; obtain ⟨hc1, hf1, hz1⟩ := bel hb1; (try simp only [World.size_drew, World.cell?_drew, World.frozen?_drew, World.heap_drewN, World.cell?_drewN, World.frozen?_drewN] at hc1 hf1 hz1); (try have hl1 : w.heap.size < w1.heap.size := zl hb1); (try have hm1 : w.heap.size + 1 < w1.heap.size := zl hb1); (try have hn1 : w.heap.size + 1 + 1 < w1.heap.size := zl hb1); (try have hp1 : b < w1.heap.size := zl hb1); (try have ho1 : b' < w1.heap.size := by (have hq := hb1.size; (try simp at hq); omega))
    go_wp2
    go_ret
    exact ⟨ret_int HV.out.symm, by repeat (with_reducible first | exact Below.refl _ _ | assumption | refine Bel.alloc ?_ _ | refine Bel.step (by assumption) ?_ | refine Below.drew ?_ | refine Bel.drewN ?_ _ | refine Below.setCell ?_ (by first | exact Nat.le_refl _ | omega | (simp; done) | (simp; omega)) _)⟩
end Go.Proofs.YtpmcgicopogbhaaGreat
