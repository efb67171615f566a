/- Chapters 2, 18 and 23: valid figures, formulas, charts. Conditions: as stated at each contract. -/
import Derived.Test.YtpmcgicopogbhaaGreatProg
import Derived.Test.YtpmcgicopogbhaaGreatBase
import Derived.Test.YtpmcgicopogbhaaGreatZy
import Derived.Test.YtpmcgicopogbhaaGreatL01
import Derived.Test.YtpmcgicopogbhaaGreatCp
import Derived.WalkKit
import Derived.WalkSpells
import Derived.WalkLawsBesides
import Derived.Lib.Hide
import Derived.Deep.QuietTactic
import Derived.BigQuiet
import Derived.Deep.Draws
import Derived.Deep.RegionHeld3
import Derived.PlainAid
namespace Go.Proofs.YtpmcgicopogbhaaGreat
set_option linter.unusedSimpArgs false
open Go.RowKit Go.PlainAid
set_option linter.unusedVariables false
def okF (dg tn : Int) : Bool := inB dg 1000 9999 && inB tn (-30) 30
theorem okF_iff {dg tn : Int} (h : okF dg tn = true) : 1000 ≤ dg ∧ dg ≤ 9999 ∧ -30 ≤ tn ∧ tn ≤ 30 := by
  simp only [okF, Bool.and_eq_true, inB_iff] at h; omega
/-- Is the letter with number k, with its exponent, in order? -/
def ltr (nm : ByteArray) (zs : List Int) (k : Nat) : Bool := decide (97 ≤ bt nm k) && decide (bt nm k ≤ 122) && (decide (¬ 0 < k) || decide (bt nm (k - 1) < bt nm k)) && decide (zs.getD k 0 ≠ 0) && inB (zs.getD k 0) (-6) 6
def ltrs (nm : ByteArray) (zs : List Int) : Nat → Bool
  | 0 => true
  | k + 1 => ltrs nm zs k && ltr nm zs k
theorem ltrs_no {nm : ByteArray} {zs : List Int} {k n : Nat} (h : ltr nm zs k = false) (hk : k < n) : ltrs nm zs n = false := by
  induction n with
  | zero => omega
  | succ n ih =>
    rcases Nat.lt_or_eq_of_le (Nat.le_of_lt_succ hk) with h1 | h1
    · simp [ltrs, ih h1]
    · subst h1; simp [ltrs, h]
theorem ltrs_yes {nm : ByteArray} {zs : List Int} {k : Nat} (h1 : ltrs nm zs k = true) (h : ltr nm zs k = true) : ltrs nm zs (k + 1) = true := by simp [ltrs, h, h1]
theorem ltrs_at {nm : ByteArray} {zs : List Int} {k n : Nat} (h : ltrs nm zs n = true) (hk : k < n) : ltr nm zs k = true := by
  cases h1 : ltr nm zs k with
  | true => rfl
  | false => rw [ltrs_no h1 hk] at h; cases h
theorem ltr_cases (nm : ByteArray) (zs : List Int) (k : Nat) :
    (decide (bt nm k < 97) = true ∧ Hid (ltr nm zs k = false)) ∨
    (decide (bt nm k < 97) = false ∧ decide (122 < bt nm k) = true ∧ Hid (ltr nm zs k = false)) ∨
    (decide (bt nm k < 97) = false ∧ decide (122 < bt nm k) = false ∧ decide (0 < k) = true ∧ decide (bt nm k ≤ bt nm (k - 1)) = true ∧ Hid (ltr nm zs k = false)) ∨
    (decide (bt nm k < 97) = false ∧ decide (122 < bt nm k) = false ∧ decide (0 < k) = false ∧ (zs.getD k 0 == 0) = true ∧ Hid (ltr nm zs k = false)) ∨
    (decide (bt nm k < 97) = false ∧ decide (122 < bt nm k) = false ∧ decide (0 < k) = false ∧ (zs.getD k 0 == 0) = false ∧ inB (zs.getD k 0) (-6) 6 = false ∧ Hid (ltr nm zs k = false)) ∨
    (decide (bt nm k < 97) = false ∧ decide (122 < bt nm k) = false ∧ decide (0 < k) = false ∧ (zs.getD k 0 == 0) = false ∧ inB (zs.getD k 0) (-6) 6 = true ∧ Hid (ltr nm zs k = true)) ∨
    (decide (bt nm k < 97) = false ∧ decide (122 < bt nm k) = false ∧ decide (0 < k) = true ∧ decide (bt nm k ≤ bt nm (k - 1)) = false ∧ (zs.getD k 0 == 0) = true ∧ Hid (ltr nm zs k = false)) ∨
    (decide (bt nm k < 97) = false ∧ decide (122 < bt nm k) = false ∧ decide (0 < k) = true ∧ decide (bt nm k ≤ bt nm (k - 1)) = false ∧ (zs.getD k 0 == 0) = false ∧ inB (zs.getD k 0) (-6) 6 = false ∧ Hid (ltr nm zs k = false)) ∨
    (decide (bt nm k < 97) = false ∧ decide (122 < bt nm k) = false ∧ decide (0 < k) = true ∧ decide (bt nm k ≤ bt nm (k - 1)) = false ∧ (zs.getD k 0 == 0) = false ∧ inB (zs.getD k 0) (-6) 6 = true ∧ Hid (ltr nm zs k = true)) := by
  unfold Hid ltr
  have e0 : decide (¬ 0 < k) = !decide (0 < k) := by by_cases h : 0 < k <;> simp [h]
  have e1 : decide (bt nm (k - 1) < bt nm k) = !decide (bt nm k ≤ bt nm (k - 1)) := by by_cases h : bt nm k ≤ bt nm (k - 1) <;> simp [h] <;> omega
  have e2 : decide (97 ≤ bt nm k) = !decide (bt nm k < 97) := by by_cases h : bt nm k < 97 <;> simp [h] <;> omega
  have e3 : decide (bt nm k ≤ 122) = !decide (122 < bt nm k) := by by_cases h : 122 < bt nm k <;> simp [h] <;> omega
  have e4 : decide (zs.getD k 0 ≠ 0) = !(zs.getD k 0 == 0) := by generalize zs.getD k 0 = z; by_cases h : z = 0 <;> simp [h]
  rw [e0, e1, e2, e3, e4]
  cases decide (bt nm k < 97) <;> cases decide (122 < bt nm k) <;> cases decide (0 < k) <;> cases decide (bt nm k ≤ bt nm (k - 1)) <;> cases (zs.getD k 0 == 0) <;> cases inB (zs.getD k 0) (-6) 6 <;> simp
/-- Is this a formula? -/
def okFm (C : Ch) : Bool := okF C.dg C.tn && decide (C.nm.size ≤ 6) && decide (C.zs.length = C.nm.size) && ltrs C.nm C.zs C.nm.size
/-- Is this a chart? -/
def okCh (C : Ch) : Bool := okFm C && decide (C.nm.size = 2) && inB C.wd 1000 100000 && inB C.lf 100 20000 && inB C.rt 100 20000
theorem IsFigure_I (dg tn : Int) (w : World) :
    Calls Tryz.prog 67 #[.agg #[.int .i64 dg, .int .i64 tn]] w fun e w' => e = .returned (.bool (okF dg tn)) ∧ Below w.heap.size w w' := by
  by_cases h : inB dg 1000 9999 = true
  · have HV := Lib.hid (show okF dg tn = inB tn (-30) 30 by simp [okF, h])
    go_enter Tryz.func67, Tryz.ntmps67
    go_wp2_with (first | (go_at_call 71; refine (within_c _ _ _ _).mono ?_; rintro e w' ⟨rfl, rfl⟩))
    go_ret
    exact ⟨ret_bool HV.out.symm, by repeat (with_reducible first | exact Below.refl _ _ | assumption | refine Bel.alloc ?_ _ | refine Bel.step (by assumption) ?_ | refine Below.drew ?_ | refine Bel.drewN ?_ _ | refine Below.setCell ?_ (by first | exact Nat.le_refl _ | omega | (simp; done) | (simp; omega)) _)⟩
  · have h' : inB dg 1000 9999 = false := by simpa using h
    have HV := Lib.hid (show okF dg tn = false by simp [okF, h'])
    clear h
    go_enter Tryz.func67, Tryz.ntmps67
    go_wp2_with (first | (go_at_call 71; refine (within_c _ _ _ _).mono ?_; rintro e w' ⟨rfl, rfl⟩))
    go_ret
    exact ⟨ret_bool HV.out.symm, by repeat (with_reducible first | exact Below.refl _ _ | assumption | refine Bel.alloc ?_ _ | refine Bel.step (by assumption) ?_ | refine Below.drew ?_ | refine Bel.drewN ?_ _ | refine Below.setCell ?_ (by first | exact Nat.le_refl _ | omega | (simp; done) | (simp; omega)) _)⟩
theorem IsFigure_S (dg tn : Int) (w : World) :
    Calls Tryz.prog 68 #[.agg #[.int .i64 dg, .int .i64 tn]] w fun e w' => e = .returned (.bool (okF dg tn)) ∧ Below w.heap.size w w' := by
  by_cases h : inB dg 1000 9999 = true
  · have HV := Lib.hid (show okF dg tn = inB tn (-30) 30 by simp [okF, h])
    go_enter Tryz.func68, Tryz.ntmps68
    go_wp2_with (first | (go_at_call 55; refine (l01In_c _ _ _ _).mono ?_; rintro e w' ⟨rfl, rfl⟩))
    go_ret
    exact ⟨ret_bool HV.out.symm, by repeat (with_reducible first | exact Below.refl _ _ | assumption | refine Bel.alloc ?_ _ | refine Bel.step (by assumption) ?_ | refine Below.drew ?_ | refine Bel.drewN ?_ _ | refine Below.setCell ?_ (by first | exact Nat.le_refl _ | omega | (simp; done) | (simp; omega)) _)⟩
  · have h' : inB dg 1000 9999 = false := by simpa using h
    have HV := Lib.hid (show okF dg tn = false by simp [okF, h'])
    clear h
    go_enter Tryz.func68, Tryz.ntmps68
    go_wp2_with (first | (go_at_call 55; refine (l01In_c _ _ _ _).mono ?_; rintro e w' ⟨rfl, rfl⟩))
    go_ret
    exact ⟨ret_bool HV.out.symm, by repeat (with_reducible first | exact Below.refl _ _ | assumption | refine Bel.alloc ?_ _ | refine Bel.step (by assumption) ?_ | refine Below.drew ?_ | refine Bel.drewN ?_ _ | refine Below.setCell ?_ (by first | exact Nat.le_refl _ | omega | (simp; done) | (simp; omega)) _)⟩
set_option maxHeartbeats 4000000 in
theorem IsFormula_S (C : Ch) (A : Option Addr) (c : Nat) (hn : C.zs.length ≤ 1048576) (hs : C.nm.size ≤ 1048576) (w : World) (hA : Ints w A C.zs) :
    Calls Tryz.prog 103 #[.agg #[.int .i64 C.dg, .int .i64 C.tn, .string C.nm, .slice A C.zs.length c]] w fun e w' => e = .returned (.bool (okFm C)) ∧ Below w.heap.size w w' := by
  by_cases h1 : okF C.dg C.tn = true
  · by_cases h2 : C.nm.size ≤ 6
    · by_cases h3 : C.nm.size = C.zs.length
      · have b3 : ((C.nm.size : Int) != (C.zs.length : Int)) = false := by simp [h3]
        have H3 := Lib.hid h3
        have HV := Lib.hid (show okFm C = ltrs C.nm C.zs C.nm.size by simp [okFm, h1, h2, h3.symm])
        have hb := get_bt C.nm
        clear h3
        go_enter Tryz.func103, Tryz.ntmps103
        go_wp2_with fail
        go_at_call 68; refine (IsFigure_S _ _ _).mono ?_; rintro e w1 ⟨rfl, hb1⟩; obtain ⟨hc1, hf1, hz1⟩ := bel hb1; (try simp only [World.size_drew, World.cell?_drew, World.frozen?_drew, World.heap_drewN, World.cell?_drewN, World.frozen?_drewN] at hc1 hf1 hz1); (try have hl1 : w.heap.size < w1.heap.size := zl hb1); (try have hm1 : w.heap.size + 1 < w1.heap.size := zl hb1); (try have hn1 : w.heap.size + 1 + 1 < w1.heap.size := zl hb1); (try have hp1 : b < w1.heap.size := zl hb1); (try have ho1 : b' < w1.heap.size := by (have hq := hb1.size; (try simp at hq); omega))
        go_wp2
        go_loopw [3] (fun i wr => ∃ k : Nat, k ≤ C.nm.size ∧ i = .int .i64 k ∧ ltrs C.nm C.zs k = true ∧ Blk wr w.heap.size 28 #[.int .i64 C.dg, .int .i64 C.tn, .string C.nm, .slice A C.zs.length c] ∧ Below w.heap.size w wr) (fun i _ => C.nm.size - (intOf i).toNat)
        case atStart => exact ⟨0, Nat.zero_le _, rfl, rfl, Blk.step hb1 (Blk.new _ _ _), by repeat (with_reducible first | exact Below.refl _ _ | assumption | refine Bel.alloc ?_ _ | refine Bel.step (by assumption) ?_ | refine Below.drew ?_ | refine Bel.drewN ?_ _ | refine Below.setCell ?_ (by first | exact Nat.le_refl _ | omega | (simp; done) | (simp; omega)) _)⟩
        case round =>
          obtain ⟨k, hk, rfl, hok, hB, hbel⟩ := hrel
          have k0 : wr.cell? ⟨w.heap.size, 0, none⟩ = some (.int .i64 C.dg) := by rw [hB.cell]; rfl
          have k1 : wr.cell? ⟨w.heap.size, 1, none⟩ = some (.int .i64 C.tn) := by rw [hB.cell]; rfl
          have k2 : wr.cell? ⟨w.heap.size, 2, none⟩ = some (.string C.nm) := by rw [hB.cell]; rfl
          have k3 : wr.cell? ⟨w.heap.size, 3, none⟩ = some (.slice A C.zs.length c) := by rw [hB.cell]; rfl
          have klt := hB.lt
          have HB := Lib.hid hB
          have HO := Lib.hid hok
          clear hB hok hb1 hc1 hf1 hz1 h1
          by_cases hlt : k < C.nm.size
          · have hlt2 : k < C.zs.length := by have := H3.out; omega
            obtain ⟨b, o, rfl, hbb, hc⟩ := (Ints.step hbel hA).at_ k hlt2
            rw [← getD_at 0 _ _ hlt2] at hc
            have hcs := ltr_cases C.nm C.zs k
            obtain ⟨z, hz⟩ : ∃ z, z = C.zs.getD k 0 := ⟨_, rfl⟩
            rw [← hz] at hc hcs
            clear hz
            rcases hcs with ⟨q1, HL⟩ | ⟨q1, q2, HL⟩ | ⟨q1, q2, q3, q4, HL⟩ | ⟨q1, q2, q3, q4, HL⟩ | ⟨q1, q2, q3, q4, q5, HL⟩ | ⟨q1, q2, q3, q4, q5, HL⟩ | ⟨q1, q2, q3, q4, q5, HL⟩ | ⟨q1, q2, q3, q4, q5, q6, HL⟩ | ⟨q1, q2, q3, q4, q5, q6, HL⟩
            · try have p3 : 0 < k := of_decide_eq_true q3
              go_wp2
              go_big_quiet (fail)
              go_wp2
              go_ret
              exact ⟨by rw [HV.out, ltrs_no HL.out hlt]; rfl, by repeat (with_reducible first | exact Below.refl _ _ | assumption | refine Bel.alloc ?_ _ | refine Bel.step (by assumption) ?_ | refine Below.drew ?_ | refine Bel.drewN ?_ _ | refine Below.setCell ?_ (by first | exact Nat.le_refl _ | omega | (simp; done) | (simp; omega)) _)⟩
            · try have p3 : 0 < k := of_decide_eq_true q3
              go_wp2
              go_big_quiet (fail)
              go_wp2
              go_ret
              exact ⟨by rw [HV.out, ltrs_no HL.out hlt]; rfl, by repeat (with_reducible first | exact Below.refl _ _ | assumption | refine Bel.alloc ?_ _ | refine Bel.step (by assumption) ?_ | refine Below.drew ?_ | refine Bel.drewN ?_ _ | refine Below.setCell ?_ (by first | exact Nat.le_refl _ | omega | (simp; done) | (simp; omega)) _)⟩
            · try have p3 : 0 < k := of_decide_eq_true q3
              go_wp2
              go_big_quiet (fail)
              go_wp2
              go_ret
              exact ⟨by rw [HV.out, ltrs_no HL.out hlt]; rfl, by repeat (with_reducible first | exact Below.refl _ _ | assumption | refine Bel.alloc ?_ _ | refine Bel.step (by assumption) ?_ | refine Below.drew ?_ | refine Bel.drewN ?_ _ | refine Below.setCell ?_ (by first | exact Nat.le_refl _ | omega | (simp; done) | (simp; omega)) _)⟩
            · try have p3 : 0 < k := of_decide_eq_true q3
              go_wp2
              go_big_quiet (fail)
              go_wp2
              go_ret
              exact ⟨by rw [HV.out, ltrs_no HL.out hlt]; rfl, by repeat (with_reducible first | exact Below.refl _ _ | assumption | refine Bel.alloc ?_ _ | refine Bel.step (by assumption) ?_ | refine Below.drew ?_ | refine Bel.drewN ?_ _ | refine Below.setCell ?_ (by first | exact Nat.le_refl _ | omega | (simp; done) | (simp; omega)) _)⟩
            · try have p3 : 0 < k := of_decide_eq_true q3
              go_wp2
              go_big_quiet ((first | (go_at_call 55; exact quiet_left (as_b q5 (l01In_c _ _ _ _)))))
              go_wp2
              go_ret
              exact ⟨by rw [HV.out, ltrs_no HL.out hlt]; rfl, by repeat (with_reducible first | exact Below.refl _ _ | assumption | refine Bel.alloc ?_ _ | refine Bel.step (by assumption) ?_ | refine Below.drew ?_ | refine Bel.drewN ?_ _ | refine Below.setCell ?_ (by first | exact Nat.le_refl _ | omega | (simp; done) | (simp; omega)) _)⟩
            · try have p3 : 0 < k := of_decide_eq_true q3
              go_wp2
              go_big_quiet ((first | (go_at_call 55; exact quiet_left (as_b q5 (l01In_c _ _ _ _)))))
              go_wp2
              go_roundw
              case rel => exact ⟨k + 1, by omega, by go_num, ltrs_yes HO.out HL.out, (by repeat (with_reducible first | exact HB.out | assumption | refine Blk.alloc _ ?_ | refine Blk.step (by assumption) ?_ | refine Blk.drew ?_ | refine Blk.drewN _ ?_)), by repeat (with_reducible first | exact Below.refl _ _ | assumption | refine Bel.alloc ?_ _ | refine Bel.step (by assumption) ?_ | refine Below.drew ?_ | refine Bel.drewN ?_ _ | refine Below.setCell ?_ (by first | exact Nat.le_refl _ | omega | (simp; done) | (simp; omega)) _)⟩
              case measure => simp [intOf]; omega
            · try have p3 : 0 < k := of_decide_eq_true q3
              go_wp2
              go_big_quiet (fail)
              go_wp2
              go_ret
              exact ⟨by rw [HV.out, ltrs_no HL.out hlt]; rfl, by repeat (with_reducible first | exact Below.refl _ _ | assumption | refine Bel.alloc ?_ _ | refine Bel.step (by assumption) ?_ | refine Below.drew ?_ | refine Bel.drewN ?_ _ | refine Below.setCell ?_ (by first | exact Nat.le_refl _ | omega | (simp; done) | (simp; omega)) _)⟩
            · try have p3 : 0 < k := of_decide_eq_true q3
              go_wp2
              go_big_quiet ((first | (go_at_call 55; exact quiet_left (as_b q6 (l01In_c _ _ _ _)))))
              go_wp2
              go_ret
              exact ⟨by rw [HV.out, ltrs_no HL.out hlt]; rfl, by repeat (with_reducible first | exact Below.refl _ _ | assumption | refine Bel.alloc ?_ _ | refine Bel.step (by assumption) ?_ | refine Below.drew ?_ | refine Bel.drewN ?_ _ | refine Below.setCell ?_ (by first | exact Nat.le_refl _ | omega | (simp; done) | (simp; omega)) _)⟩
            · try have p3 : 0 < k := of_decide_eq_true q3
              go_wp2
              go_big_quiet ((first | (go_at_call 55; exact quiet_left (as_b q6 (l01In_c _ _ _ _)))))
              go_wp2
              go_roundw
              case rel => exact ⟨k + 1, by omega, by go_num, ltrs_yes HO.out HL.out, (by repeat (with_reducible first | exact HB.out | assumption | refine Blk.alloc _ ?_ | refine Blk.step (by assumption) ?_ | refine Blk.drew ?_ | refine Blk.drewN _ ?_)), by repeat (with_reducible first | exact Below.refl _ _ | assumption | refine Bel.alloc ?_ _ | refine Bel.step (by assumption) ?_ | refine Below.drew ?_ | refine Bel.drewN ?_ _ | refine Below.setCell ?_ (by first | exact Nat.le_refl _ | omega | (simp; done) | (simp; omega)) _)⟩
              case measure => simp [intOf]; omega
          · obtain rfl : k = C.nm.size := by omega
            go_wp2
            go_ret
            exact ⟨by rw [HV.out, HO.out]; rfl, by repeat (with_reducible first | exact Below.refl _ _ | assumption | refine Bel.alloc ?_ _ | refine Bel.step (by assumption) ?_ | refine Below.drew ?_ | refine Bel.drewN ?_ _ | refine Below.setCell ?_ (by first | exact Nat.le_refl _ | omega | (simp; done) | (simp; omega)) _)⟩
      · have b3 : ((C.nm.size : Int) != (C.zs.length : Int)) = true := by simp; omega
        have HV := Lib.hid (show okFm C = false by simp [okFm]; omega)
        clear h3
        go_enter Tryz.func103, Tryz.ntmps103
        go_wp2_with fail
        go_at_call 68; refine (IsFigure_S _ _ _).mono ?_; rintro e w1 ⟨rfl, hb1⟩; obtain ⟨hc1, hf1, hz1⟩ := bel hb1; (try simp only [World.size_drew, World.cell?_drew, World.frozen?_drew, World.heap_drewN, World.cell?_drewN, World.frozen?_drewN] at hc1 hf1 hz1); (try have hl1 : w.heap.size < w1.heap.size := zl hb1); (try have hm1 : w.heap.size + 1 < w1.heap.size := zl hb1); (try have hn1 : w.heap.size + 1 + 1 < w1.heap.size := zl hb1); (try have hp1 : b < w1.heap.size := zl hb1); (try have ho1 : b' < w1.heap.size := by (have hq := hb1.size; (try simp at hq); omega))
        go_wp2
        go_ret
        exact ⟨by rw [HV.out]; rfl, by repeat (with_reducible first | exact Below.refl _ _ | assumption | refine Bel.alloc ?_ _ | refine Bel.step (by assumption) ?_ | refine Below.drew ?_ | refine Bel.drewN ?_ _ | refine Below.setCell ?_ (by first | exact Nat.le_refl _ | omega | (simp; done) | (simp; omega)) _)⟩
    · have HV := Lib.hid (show okFm C = false by simp [okFm]; omega)
      go_enter Tryz.func103, Tryz.ntmps103
      go_wp2_with fail
      go_at_call 68; refine (IsFigure_S _ _ _).mono ?_; rintro e w1 ⟨rfl, hb1⟩; obtain ⟨hc1, hf1, hz1⟩ := bel hb1; (try simp only [World.size_drew, World.cell?_drew, World.frozen?_drew, World.heap_drewN, World.cell?_drewN, World.frozen?_drewN] at hc1 hf1 hz1); (try have hl1 : w.heap.size < w1.heap.size := zl hb1); (try have hm1 : w.heap.size + 1 < w1.heap.size := zl hb1); (try have hn1 : w.heap.size + 1 + 1 < w1.heap.size := zl hb1); (try have hp1 : b < w1.heap.size := zl hb1); (try have ho1 : b' < w1.heap.size := by (have hq := hb1.size; (try simp at hq); omega))
      go_wp2
      go_ret
      exact ⟨by rw [HV.out]; rfl, by repeat (with_reducible first | exact Below.refl _ _ | assumption | refine Bel.alloc ?_ _ | refine Bel.step (by assumption) ?_ | refine Below.drew ?_ | refine Bel.drewN ?_ _ | refine Below.setCell ?_ (by first | exact Nat.le_refl _ | omega | (simp; done) | (simp; omega)) _)⟩
  · have h1' : okF C.dg C.tn = false := by simpa using h1
    have HV := Lib.hid (show okFm C = false by simp [okFm, h1'])
    clear h1
    go_enter Tryz.func103, Tryz.ntmps103
    go_wp2_with fail
    go_at_call 68; refine (IsFigure_S _ _ _).mono ?_; rintro e w1 ⟨rfl, hb1⟩; obtain ⟨hc1, hf1, hz1⟩ := bel hb1; (try simp only [World.size_drew, World.cell?_drew, World.frozen?_drew, World.heap_drewN, World.cell?_drewN, World.frozen?_drewN] at hc1 hf1 hz1); (try have hl1 : w.heap.size < w1.heap.size := zl hb1); (try have hm1 : w.heap.size + 1 < w1.heap.size := zl hb1); (try have hn1 : w.heap.size + 1 + 1 < w1.heap.size := zl hb1); (try have hp1 : b < w1.heap.size := zl hb1); (try have ho1 : b' < w1.heap.size := by (have hq := hb1.size; (try simp at hq); omega))
    go_wp2
    go_ret
    exact ⟨by rw [HV.out]; rfl, by repeat (with_reducible first | exact Below.refl _ _ | assumption | refine Bel.alloc ?_ _ | refine Bel.step (by assumption) ?_ | refine Below.drew ?_ | refine Bel.drewN ?_ _ | refine Below.setCell ?_ (by first | exact Nat.le_refl _ | omega | (simp; done) | (simp; omega)) _)⟩
set_option maxHeartbeats 4000000 in
theorem IsFormula_I (C : Ch) (A : Option Addr) (c : Nat) (hn : C.zs.length ≤ 1048576) (hs : C.nm.size ≤ 1048576) (w : World) (hA : Ints w A C.zs) :
    Calls Tryz.prog 117 #[.agg #[.int .i64 C.dg, .int .i64 C.tn, .string C.nm, .slice A C.zs.length c]] w fun e w' => e = .returned (.bool (okFm C)) ∧ Below w.heap.size w w' := by
  by_cases h1 : okF C.dg C.tn = true
  · by_cases h2 : C.nm.size ≤ 6
    · by_cases h3 : C.nm.size = C.zs.length
      · have b3 : ((C.zs.length : Int) != (C.nm.size : Int)) = false := by simp [h3]
        have H3 := Lib.hid h3
        have HV := Lib.hid (show okFm C = ltrs C.nm C.zs C.nm.size by simp [okFm, h1, h2, h3.symm])
        have hb := get_bt C.nm
        clear h3
        go_enter Tryz.func117, Tryz.ntmps117
        go_wp2_with fail
        go_at_call 67; refine (IsFigure_I _ _ _).mono ?_; rintro e w1 ⟨rfl, hb1⟩; obtain ⟨hc1, hf1, hz1⟩ := bel hb1; (try simp only [World.size_drew, World.cell?_drew, World.frozen?_drew, World.heap_drewN, World.cell?_drewN, World.frozen?_drewN] at hc1 hf1 hz1); (try have hl1 : w.heap.size < w1.heap.size := zl hb1); (try have hm1 : w.heap.size + 1 < w1.heap.size := zl hb1); (try have hn1 : w.heap.size + 1 + 1 < w1.heap.size := zl hb1); (try have hp1 : b < w1.heap.size := zl hb1); (try have ho1 : b' < w1.heap.size := by (have hq := hb1.size; (try simp at hq); omega))
        go_wp2
        go_loopw [3, 4, 27] (fun _ _ i wr => ∃ k : Nat, k ≤ C.nm.size ∧ i = .int .i64 k ∧ ltrs C.nm C.zs k = true ∧ Blk wr w.heap.size 28 #[.int .i64 C.dg, .int .i64 C.tn, .string C.nm, .slice A C.zs.length c] ∧ Below w.heap.size w wr) (fun _ _ i _ => C.nm.size - (intOf i).toNat)
        case atStart => exact ⟨0, Nat.zero_le _, rfl, rfl, Blk.step hb1 (Blk.new _ _ _), by repeat (with_reducible first | exact Below.refl _ _ | assumption | refine Bel.alloc ?_ _ | refine Bel.step (by assumption) ?_ | refine Below.drew ?_ | refine Bel.drewN ?_ _ | refine Below.setCell ?_ (by first | exact Nat.le_refl _ | omega | (simp; done) | (simp; omega)) _)⟩
        case round =>
          obtain ⟨k, hk, rfl, hok, hB, hbel⟩ := hrel
          have k0 : wr.cell? ⟨w.heap.size, 0, none⟩ = some (.int .i64 C.dg) := by rw [hB.cell]; rfl
          have k1 : wr.cell? ⟨w.heap.size, 1, none⟩ = some (.int .i64 C.tn) := by rw [hB.cell]; rfl
          have k2 : wr.cell? ⟨w.heap.size, 2, none⟩ = some (.string C.nm) := by rw [hB.cell]; rfl
          have k3 : wr.cell? ⟨w.heap.size, 3, none⟩ = some (.slice A C.zs.length c) := by rw [hB.cell]; rfl
          have klt := hB.lt
          have HB := Lib.hid hB
          have HO := Lib.hid hok
          clear hB hok hb1 hc1 hf1 hz1 h1
          by_cases hlt : k < C.nm.size
          · have hlt2 : k < C.zs.length := by have := H3.out; omega
            obtain ⟨b, o, rfl, hbb, hc⟩ := (Ints.step hbel hA).at_ k hlt2
            rw [← getD_at 0 _ _ hlt2] at hc
            have hcs := ltr_cases C.nm C.zs k
            obtain ⟨z, hz⟩ : ∃ z, z = C.zs.getD k 0 := ⟨_, rfl⟩
            rw [← hz] at hc hcs
            clear hz
            rcases hcs with ⟨q1, HL⟩ | ⟨q1, q2, HL⟩ | ⟨q1, q2, q3, q4, HL⟩ | ⟨q1, q2, q3, q4, HL⟩ | ⟨q1, q2, q3, q4, q5, HL⟩ | ⟨q1, q2, q3, q4, q5, HL⟩ | ⟨q1, q2, q3, q4, q5, HL⟩ | ⟨q1, q2, q3, q4, q5, q6, HL⟩ | ⟨q1, q2, q3, q4, q5, q6, HL⟩
            · try have p3 : 0 < k := of_decide_eq_true q3
              go_wp2
              go_big_quiet (fail)
              go_wp2
              go_ret
              exact ⟨by rw [HV.out, ltrs_no HL.out hlt]; rfl, by repeat (with_reducible first | exact Below.refl _ _ | assumption | refine Bel.alloc ?_ _ | refine Bel.step (by assumption) ?_ | refine Below.drew ?_ | refine Bel.drewN ?_ _ | refine Below.setCell ?_ (by first | exact Nat.le_refl _ | omega | (simp; done) | (simp; omega)) _)⟩
            · try have p3 : 0 < k := of_decide_eq_true q3
              go_wp2
              go_big_quiet (fail)
              go_wp2
              go_ret
              exact ⟨by rw [HV.out, ltrs_no HL.out hlt]; rfl, by repeat (with_reducible first | exact Below.refl _ _ | assumption | refine Bel.alloc ?_ _ | refine Bel.step (by assumption) ?_ | refine Below.drew ?_ | refine Bel.drewN ?_ _ | refine Below.setCell ?_ (by first | exact Nat.le_refl _ | omega | (simp; done) | (simp; omega)) _)⟩
            · try have p3 : 0 < k := of_decide_eq_true q3
              go_wp2
              go_big_quiet (fail)
              go_wp2
              go_ret
              exact ⟨by rw [HV.out, ltrs_no HL.out hlt]; rfl, by repeat (with_reducible first | exact Below.refl _ _ | assumption | refine Bel.alloc ?_ _ | refine Bel.step (by assumption) ?_ | refine Below.drew ?_ | refine Bel.drewN ?_ _ | refine Below.setCell ?_ (by first | exact Nat.le_refl _ | omega | (simp; done) | (simp; omega)) _)⟩
            · try have p3 : 0 < k := of_decide_eq_true q3
              go_wp2
              go_big_quiet (fail)
              go_wp2
              go_ret
              exact ⟨by rw [HV.out, ltrs_no HL.out hlt]; rfl, by repeat (with_reducible first | exact Below.refl _ _ | assumption | refine Bel.alloc ?_ _ | refine Bel.step (by assumption) ?_ | refine Below.drew ?_ | refine Bel.drewN ?_ _ | refine Below.setCell ?_ (by first | exact Nat.le_refl _ | omega | (simp; done) | (simp; omega)) _)⟩
            · try have p3 : 0 < k := of_decide_eq_true q3
              go_wp2
              go_big_quiet ((first | (go_at_call 71; exact quiet_left (as_b q5 (within_c _ _ _ _)))))
              go_wp2
              go_ret
              exact ⟨by rw [HV.out, ltrs_no HL.out hlt]; rfl, by repeat (with_reducible first | exact Below.refl _ _ | assumption | refine Bel.alloc ?_ _ | refine Bel.step (by assumption) ?_ | refine Below.drew ?_ | refine Bel.drewN ?_ _ | refine Below.setCell ?_ (by first | exact Nat.le_refl _ | omega | (simp; done) | (simp; omega)) _)⟩
            · try have p3 : 0 < k := of_decide_eq_true q3
              go_wp2
              go_big_quiet ((first | (go_at_call 71; exact quiet_left (as_b q5 (within_c _ _ _ _)))))
              go_wp2
              go_roundw
              case rel => exact ⟨k + 1, by omega, by go_num, ltrs_yes HO.out HL.out, (by repeat (with_reducible first | exact HB.out | assumption | refine Blk.alloc _ ?_ | refine Blk.step (by assumption) ?_ | refine Blk.drew ?_ | refine Blk.drewN _ ?_)), by repeat (with_reducible first | exact Below.refl _ _ | assumption | refine Bel.alloc ?_ _ | refine Bel.step (by assumption) ?_ | refine Below.drew ?_ | refine Bel.drewN ?_ _ | refine Below.setCell ?_ (by first | exact Nat.le_refl _ | omega | (simp; done) | (simp; omega)) _)⟩
              case measure => simp [intOf]; omega
            · try have p3 : 0 < k := of_decide_eq_true q3
              go_wp2
              go_big_quiet (fail)
              go_wp2
              go_ret
              exact ⟨by rw [HV.out, ltrs_no HL.out hlt]; rfl, by repeat (with_reducible first | exact Below.refl _ _ | assumption | refine Bel.alloc ?_ _ | refine Bel.step (by assumption) ?_ | refine Below.drew ?_ | refine Bel.drewN ?_ _ | refine Below.setCell ?_ (by first | exact Nat.le_refl _ | omega | (simp; done) | (simp; omega)) _)⟩
            · try have p3 : 0 < k := of_decide_eq_true q3
              go_wp2
              go_big_quiet ((first | (go_at_call 71; exact quiet_left (as_b q6 (within_c _ _ _ _)))))
              go_wp2
              go_ret
              exact ⟨by rw [HV.out, ltrs_no HL.out hlt]; rfl, by repeat (with_reducible first | exact Below.refl _ _ | assumption | refine Bel.alloc ?_ _ | refine Bel.step (by assumption) ?_ | refine Below.drew ?_ | refine Bel.drewN ?_ _ | refine Below.setCell ?_ (by first | exact Nat.le_refl _ | omega | (simp; done) | (simp; omega)) _)⟩
            · try have p3 : 0 < k := of_decide_eq_true q3
              go_wp2
              go_big_quiet ((first | (go_at_call 71; exact quiet_left (as_b q6 (within_c _ _ _ _)))))
              go_wp2
              go_roundw
              case rel => exact ⟨k + 1, by omega, by go_num, ltrs_yes HO.out HL.out, (by repeat (with_reducible first | exact HB.out | assumption | refine Blk.alloc _ ?_ | refine Blk.step (by assumption) ?_ | refine Blk.drew ?_ | refine Blk.drewN _ ?_)), by repeat (with_reducible first | exact Below.refl _ _ | assumption | refine Bel.alloc ?_ _ | refine Bel.step (by assumption) ?_ | refine Below.drew ?_ | refine Bel.drewN ?_ _ | refine Below.setCell ?_ (by first | exact Nat.le_refl _ | omega | (simp; done) | (simp; omega)) _)⟩
              case measure => simp [intOf]; omega
          · obtain rfl : k = C.nm.size := by omega
            have hge : ¬ C.nm.size < C.zs.length := by have := H3.out; omega
            go_wp2
            go_ret
            exact ⟨by rw [HV.out, HO.out]; rfl, by repeat (with_reducible first | exact Below.refl _ _ | assumption | refine Bel.alloc ?_ _ | refine Bel.step (by assumption) ?_ | refine Below.drew ?_ | refine Bel.drewN ?_ _ | refine Below.setCell ?_ (by first | exact Nat.le_refl _ | omega | (simp; done) | (simp; omega)) _)⟩
      · have b3 : ((C.zs.length : Int) != (C.nm.size : Int)) = true := by simp; omega
        have HV := Lib.hid (show okFm C = false by simp [okFm]; omega)
        clear h3
        go_enter Tryz.func117, Tryz.ntmps117
        go_wp2_with fail
        go_at_call 67; refine (IsFigure_I _ _ _).mono ?_; rintro e w1 ⟨rfl, hb1⟩; obtain ⟨hc1, hf1, hz1⟩ := bel hb1; (try simp only [World.size_drew, World.cell?_drew, World.frozen?_drew, World.heap_drewN, World.cell?_drewN, World.frozen?_drewN] at hc1 hf1 hz1); (try have hl1 : w.heap.size < w1.heap.size := zl hb1); (try have hm1 : w.heap.size + 1 < w1.heap.size := zl hb1); (try have hn1 : w.heap.size + 1 + 1 < w1.heap.size := zl hb1); (try have hp1 : b < w1.heap.size := zl hb1); (try have ho1 : b' < w1.heap.size := by (have hq := hb1.size; (try simp at hq); omega))
        go_wp2
        go_ret
        exact ⟨by rw [HV.out]; rfl, by repeat (with_reducible first | exact Below.refl _ _ | assumption | refine Bel.alloc ?_ _ | refine Bel.step (by assumption) ?_ | refine Below.drew ?_ | refine Bel.drewN ?_ _ | refine Below.setCell ?_ (by first | exact Nat.le_refl _ | omega | (simp; done) | (simp; omega)) _)⟩
    · have HV := Lib.hid (show okFm C = false by simp [okFm]; omega)
      go_enter Tryz.func117, Tryz.ntmps117
      go_wp2_with fail
      go_at_call 67; refine (IsFigure_I _ _ _).mono ?_; rintro e w1 ⟨rfl, hb1⟩; obtain ⟨hc1, hf1, hz1⟩ := bel hb1; (try simp only [World.size_drew, World.cell?_drew, World.frozen?_drew, World.heap_drewN, World.cell?_drewN, World.frozen?_drewN] at hc1 hf1 hz1); (try have hl1 : w.heap.size < w1.heap.size := zl hb1); (try have hm1 : w.heap.size + 1 < w1.heap.size := zl hb1); (try have hn1 : w.heap.size + 1 + 1 < w1.heap.size := zl hb1); (try have hp1 : b < w1.heap.size := zl hb1); (try have ho1 : b' < w1.heap.size := by (have hq := hb1.size; (try simp at hq); omega))
      go_wp2
      go_ret
      exact ⟨by rw [HV.out]; rfl, by repeat (with_reducible first | exact Below.refl _ _ | assumption | refine Bel.alloc ?_ _ | refine Bel.step (by assumption) ?_ | refine Below.drew ?_ | refine Bel.drewN ?_ _ | refine Below.setCell ?_ (by first | exact Nat.le_refl _ | omega | (simp; done) | (simp; omega)) _)⟩
  · have h1' : okF C.dg C.tn = false := by simpa using h1
    have HV := Lib.hid (show okFm C = false by simp [okFm, h1'])
    clear h1
    go_enter Tryz.func117, Tryz.ntmps117
    go_wp2_with fail
    go_at_call 67; refine (IsFigure_I _ _ _).mono ?_; rintro e w1 ⟨rfl, hb1⟩; obtain ⟨hc1, hf1, hz1⟩ := bel hb1; (try simp only [World.size_drew, World.cell?_drew, World.frozen?_drew, World.heap_drewN, World.cell?_drewN, World.frozen?_drewN] at hc1 hf1 hz1); (try have hl1 : w.heap.size < w1.heap.size := zl hb1); (try have hm1 : w.heap.size + 1 < w1.heap.size := zl hb1); (try have hn1 : w.heap.size + 1 + 1 < w1.heap.size := zl hb1); (try have hp1 : b < w1.heap.size := zl hb1); (try have ho1 : b' < w1.heap.size := by (have hq := hb1.size; (try simp at hq); omega))
    go_wp2
    go_ret
    exact ⟨by rw [HV.out]; rfl, by repeat (with_reducible first | exact Below.refl _ _ | assumption | refine Bel.alloc ?_ _ | refine Bel.step (by assumption) ?_ | refine Below.drew ?_ | refine Bel.drewN ?_ _ | refine Below.setCell ?_ (by first | exact Nat.le_refl _ | omega | (simp; done) | (simp; omega)) _)⟩
theorem IsChart_S (C : Ch) (A : Option Addr) (c : Nat) (hn : C.zs.length ≤ 1048576) (hs : C.nm.size ≤ 1048576) (w : World) (hA : Ints w A C.zs) :
    Calls Tryz.prog 54 #[.agg #[.int .i64 C.dg, .int .i64 C.tn, .string C.nm, .slice A C.zs.length c, .int .i64 C.wd, .int .i64 C.lf, .int .i64 C.rt]] w fun e w' => e = .returned (.bool (okCh C)) ∧ Below w.heap.size w w' := by
  by_cases h1 : okFm C = true
  · have HV := Lib.hid (show okCh C = (decide (C.nm.size = 2) && inB C.wd 1000 100000 && inB C.lf 100 20000 && inB C.rt 100 20000) by simp [okCh, h1])
    by_cases h2 : C.nm.size = 2
    · have b2 : ((C.nm.size : Int) == 2) = true := by simp; omega
      have H2 := Lib.hid h2
      clear h2
      go_enter Tryz.func54, Tryz.ntmps54
      go_wp2_with fail
      go_at_call 103; refine (IsFormula_S _ _ _ hn hs _ (Ints.alloc _ hA)).mono ?_; rintro e w1 ⟨rfl, hb1⟩; obtain ⟨hc1, hf1, hz1⟩ := bel hb1; (try simp only [World.size_drew, World.cell?_drew, World.frozen?_drew, World.heap_drewN, World.cell?_drewN, World.frozen?_drewN] at hc1 hf1 hz1); (try have hl1 : w.heap.size < w1.heap.size := zl hb1); (try have hm1 : w.heap.size + 1 < w1.heap.size := zl hb1); (try have hn1 : w.heap.size + 1 + 1 < w1.heap.size := zl hb1); (try have hp1 : b < w1.heap.size := zl hb1); (try have ho1 : b' < w1.heap.size := by (have hq := hb1.size; (try simp at hq); omega))
      go_wp2_with (first | (go_at_call 55; refine (l01In_c _ _ _ _).mono ?_; rintro e w' ⟨rfl, rfl⟩))
      all_goals (go_ret; exact ⟨ret_bool (by rw [HV.out, H2.out]; simp [*]), by repeat (with_reducible first | exact Below.refl _ _ | assumption | refine Bel.alloc ?_ _ | refine Bel.step (by assumption) ?_ | refine Below.drew ?_ | refine Bel.drewN ?_ _ | refine Below.setCell ?_ (by first | exact Nat.le_refl _ | omega | (simp; done) | (simp; omega)) _)⟩)
    · have b2 : ((C.nm.size : Int) == 2) = false := by simp; omega
      go_enter Tryz.func54, Tryz.ntmps54
      go_wp2_with fail
      go_at_call 103; refine (IsFormula_S _ _ _ hn hs _ (Ints.alloc _ hA)).mono ?_; rintro e w1 ⟨rfl, hb1⟩; obtain ⟨hc1, hf1, hz1⟩ := bel hb1; (try simp only [World.size_drew, World.cell?_drew, World.frozen?_drew, World.heap_drewN, World.cell?_drewN, World.frozen?_drewN] at hc1 hf1 hz1); (try have hl1 : w.heap.size < w1.heap.size := zl hb1); (try have hm1 : w.heap.size + 1 < w1.heap.size := zl hb1); (try have hn1 : w.heap.size + 1 + 1 < w1.heap.size := zl hb1); (try have hp1 : b < w1.heap.size := zl hb1); (try have ho1 : b' < w1.heap.size := by (have hq := hb1.size; (try simp at hq); omega))
      go_wp2_with (first | (go_at_call 55; refine (l01In_c _ _ _ _).mono ?_; rintro e w' ⟨rfl, rfl⟩))
      go_ret
      exact ⟨ret_bool (by rw [HV.out]; simp [h2]), by repeat (with_reducible first | exact Below.refl _ _ | assumption | refine Bel.alloc ?_ _ | refine Bel.step (by assumption) ?_ | refine Below.drew ?_ | refine Bel.drewN ?_ _ | refine Below.setCell ?_ (by first | exact Nat.le_refl _ | omega | (simp; done) | (simp; omega)) _)⟩
  · have h1' : okFm C = false := by simpa using h1
    have HV := Lib.hid (show okCh C = false by simp [okCh, h1'])
    clear h1
    go_enter Tryz.func54, Tryz.ntmps54
    go_wp2_with fail
    go_at_call 103; refine (IsFormula_S _ _ _ hn hs _ (Ints.alloc _ hA)).mono ?_; rintro e w1 ⟨rfl, hb1⟩; obtain ⟨hc1, hf1, hz1⟩ := bel hb1; (try simp only [World.size_drew, World.cell?_drew, World.frozen?_drew, World.heap_drewN, World.cell?_drewN, World.frozen?_drewN] at hc1 hf1 hz1); (try have hl1 : w.heap.size < w1.heap.size := zl hb1); (try have hm1 : w.heap.size + 1 < w1.heap.size := zl hb1); (try have hn1 : w.heap.size + 1 + 1 < w1.heap.size := zl hb1); (try have hp1 : b < w1.heap.size := zl hb1); (try have ho1 : b' < w1.heap.size := by (have hq := hb1.size; (try simp at hq); omega))
    go_wp2
    go_ret
    exact ⟨ret_bool HV.out.symm, by repeat (with_reducible first | exact Below.refl _ _ | assumption | refine Bel.alloc ?_ _ | refine Bel.step (by assumption) ?_ | refine Below.drew ?_ | refine Bel.drewN ?_ _ | refine Below.setCell ?_ (by first | exact Nat.le_refl _ | omega | (simp; done) | (simp; omega)) _)⟩
theorem IsChart_I (C : Ch) (A : Option Addr) (c : Nat) (hn : C.zs.length ≤ 1048576) (hs : C.nm.size ≤ 1048576) (w : World) (hA : Ints w A C.zs) :
    Calls Tryz.prog 69 #[.agg #[.int .i64 C.dg, .int .i64 C.tn, .string C.nm, .slice A C.zs.length c, .int .i64 C.wd, .int .i64 C.lf, .int .i64 C.rt]] w fun e w' => e = .returned (.bool (okCh C)) ∧ Below w.heap.size w w' := by
  by_cases h1 : okFm C = true
  · have HV := Lib.hid (show okCh C = (decide (C.nm.size = 2) && inB C.wd 1000 100000 && inB C.lf 100 20000 && inB C.rt 100 20000) by simp [okCh, h1])
    by_cases h2 : C.nm.size = 2
    · have b2 : ((C.nm.size : Int) == 2) = true := by simp; omega
      have H2 := Lib.hid h2
      clear h2
      go_enter Tryz.func69, Tryz.ntmps69
      go_wp2_with fail
      go_at_call 117; refine (IsFormula_I _ _ _ hn hs _ (Ints.alloc _ hA)).mono ?_; rintro e w1 ⟨rfl, hb1⟩; obtain ⟨hc1, hf1, hz1⟩ := bel hb1; (try simp only [World.size_drew, World.cell?_drew, World.frozen?_drew, World.heap_drewN, World.cell?_drewN, World.frozen?_drewN] at hc1 hf1 hz1); (try have hl1 : w.heap.size < w1.heap.size := zl hb1); (try have hm1 : w.heap.size + 1 < w1.heap.size := zl hb1); (try have hn1 : w.heap.size + 1 + 1 < w1.heap.size := zl hb1); (try have hp1 : b < w1.heap.size := zl hb1); (try have ho1 : b' < w1.heap.size := by (have hq := hb1.size; (try simp at hq); omega))
      go_wp2_with (first | (go_at_call 71; refine (within_c _ _ _ _).mono ?_; rintro e w' ⟨rfl, rfl⟩))
      all_goals (go_ret; exact ⟨ret_bool (by rw [HV.out, H2.out]; simp [*]), by repeat (with_reducible first | exact Below.refl _ _ | assumption | refine Bel.alloc ?_ _ | refine Bel.step (by assumption) ?_ | refine Below.drew ?_ | refine Bel.drewN ?_ _ | refine Below.setCell ?_ (by first | exact Nat.le_refl _ | omega | (simp; done) | (simp; omega)) _)⟩)
    · have b2 : ((C.nm.size : Int) == 2) = false := by simp; omega
      go_enter Tryz.func69, Tryz.ntmps69
      go_wp2_with fail
      go_at_call 117; refine (IsFormula_I _ _ _ hn hs _ (Ints.alloc _ hA)).mono ?_; rintro e w1 ⟨rfl, hb1⟩; obtain ⟨hc1, hf1, hz1⟩ := bel hb1; (try simp only [World.size_drew, World.cell?_drew, World.frozen?_drew, World.heap_drewN, World.cell?_drewN, World.frozen?_drewN] at hc1 hf1 hz1); (try have hl1 : w.heap.size < w1.heap.size := zl hb1); (try have hm1 : w.heap.size + 1 < w1.heap.size := zl hb1); (try have hn1 : w.heap.size + 1 + 1 < w1.heap.size := zl hb1); (try have hp1 : b < w1.heap.size := zl hb1); (try have ho1 : b' < w1.heap.size := by (have hq := hb1.size; (try simp at hq); omega))
      go_wp2_with (first | (go_at_call 71; refine (within_c _ _ _ _).mono ?_; rintro e w' ⟨rfl, rfl⟩))
      go_ret
      exact ⟨ret_bool (by rw [HV.out]; simp [h2]), by repeat (with_reducible first | exact Below.refl _ _ | assumption | refine Bel.alloc ?_ _ | refine Bel.step (by assumption) ?_ | refine Below.drew ?_ | refine Bel.drewN ?_ _ | refine Below.setCell ?_ (by first | exact Nat.le_refl _ | omega | (simp; done) | (simp; omega)) _)⟩
  · have h1' : okFm C = false := by simpa using h1
    have HV := Lib.hid (show okCh C = false by simp [okCh, h1'])
    clear h1
    go_enter Tryz.func69, Tryz.ntmps69
    go_wp2_with fail
    go_at_call 117; refine (IsFormula_I _ _ _ hn hs _ (Ints.alloc _ hA)).mono ?_; rintro e w1 ⟨rfl, hb1⟩; obtain ⟨hc1, hf1, hz1⟩ := bel hb1; (try simp only [World.size_drew, World.cell?_drew, World.frozen?_drew, World.heap_drewN, World.cell?_drewN, World.frozen?_drewN] at hc1 hf1 hz1); (try have hl1 : w.heap.size < w1.heap.size := zl hb1); (try have hm1 : w.heap.size + 1 < w1.heap.size := zl hb1); (try have hn1 : w.heap.size + 1 + 1 < w1.heap.size := zl hb1); (try have hp1 : b < w1.heap.size := zl hb1); (try have ho1 : b' < w1.heap.size := by (have hq := hb1.size; (try simp at hq); omega))
    go_wp2
    go_ret
    exact ⟨ret_bool HV.out.symm, by repeat (with_reducible first | exact Below.refl _ _ | assumption | refine Bel.alloc ?_ _ | refine Bel.step (by assumption) ?_ | refine Below.drew ?_ | refine Bel.drewN ?_ _ | refine Below.setCell ?_ (by first | exact Nat.le_refl _ | omega | (simp; done) | (simp; omega)) _)⟩
end Go.Proofs.YtpmcgicopogbhaaGreat
