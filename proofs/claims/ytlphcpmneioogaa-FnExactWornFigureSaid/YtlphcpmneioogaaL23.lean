/- Chapters 23 and 27: columns, moduli, safe bounds. Conditions: as stated at each contract. -/
import Derived.Test.YtlphcpmneioogaaProg
import Derived.Test.YtlphcpmneioogaaBase
import Derived.Test.YtlphcpmneioogaaL01
import Derived.Test.YtlphcpmneioogaaCp
import Derived.Test.YtlphcpmneioogaaL18
import Derived.WalkKit
import Derived.WalkSpells
import Derived.WalkLawsBesides
import Derived.Lib.Hide
import Derived.Deep.QuietTactic
import Derived.BigQuiet
import Derived.Deep.Draws
import Derived.Deep.RegionHeld3
import Derived.PlainAid
namespace Go.Proofs.Ytlphcpmneioogaa
open Go.RowKit
set_option linter.unusedVariables false
def P0 (C : Ch) : Int := C.zs.getD 0 0
def P1 (C : Ch) : Int := C.zs.getD 1 0
theorem ltr_pw {nm : ByteArray} {zs : List Int} {k : Nat} (h : ltr nm zs k = true) : zs.getD k 0 ≠ 0 ∧ -6 ≤ zs.getD k 0 ∧ zs.getD k 0 ≤ 6 := by
  simp only [ltr, Bool.and_eq_true, decide_eq_true_eq] at h
  exact ⟨h.1.2, inB_iff.1 h.2⟩
theorem okFm_iff {C : Ch} (h : okFm C = true) : (1000 ≤ C.dg ∧ C.dg ≤ 9999 ∧ -30 ≤ C.tn ∧ C.tn ≤ 30) ∧ C.nm.size ≤ 6 ∧ C.zs.length = C.nm.size ∧ ∀ k, k < C.nm.size → C.zs.getD k 0 ≠ 0 ∧ -6 ≤ C.zs.getD k 0 ∧ C.zs.getD k 0 ≤ 6 := by
  simp only [okFm, Bool.and_eq_true, decide_eq_true_eq] at h
  exact ⟨okF_iff h.1.1.1, h.1.1.2, h.1.2, fun k hk => ltr_pw (ltrs_at h.2 hk)⟩
theorem okCh_iff {C : Ch} (h : okCh C = true) : (1000 ≤ C.dg ∧ C.dg ≤ 9999 ∧ -30 ≤ C.tn ∧ C.tn ≤ 30) ∧ (2 ≤ C.zs.length ∧ C.zs.length ≤ 2) ∧ (1000 ≤ C.wd ∧ C.wd ≤ 100000) ∧ (100 ≤ C.lf ∧ C.lf ≤ 20000) ∧ (100 ≤ C.rt ∧ C.rt ≤ 20000) ∧ (P0 C ≠ 0 ∧ -6 ≤ P0 C ∧ P0 C ≤ 6) ∧ (P1 C ≠ 0 ∧ -6 ≤ P1 C ∧ P1 C ≤ 6) := by
  simp only [okCh, Bool.and_eq_true, decide_eq_true_eq] at h
  obtain ⟨⟨⟨⟨h1, h2⟩, h3⟩, h4⟩, h5⟩ := h
  obtain ⟨a, b, c, d⟩ := okFm_iff h1
  exact ⟨a, by omega, inB_iff.1 h3, inB_iff.1 h4, inB_iff.1 h5, d 0 (by omega), d 1 (by omega)⟩
theorem Ints.pows {w : World} {A : Option Addr} {C : Ch} (h : Ints w A C.zs) (h2 : 2 ≤ C.zs.length) : ∃ b o, A = some ⟨b, o, none⟩ ∧ b < w.heap.size ∧ w.cell? ⟨b, o, none⟩ = some (.int .i64 (P0 C)) ∧ w.cell? ⟨b, o + 1, none⟩ = some (.int .i64 (P1 C)) := by
  obtain ⟨b, o, e, hb, hc⟩ := h (by omega)
  exact ⟨b, o, e, hb, hc 0 (by omega), hc 1 (by omega)⟩
theorem mul_pos_bd {a b A B : Int} (ha : 1 ≤ a) (ha2 : a ≤ A) (hb : 1 ≤ b) (hb2 : b ≤ B) : 1 ≤ a * b ∧ a * b ≤ A * B := by
  have h1 := Int.mul_le_mul ha hb (by omega) (by omega)
  have h2 := Int.mul_le_mul ha2 hb2 (by omega) (by omega)
  omega
/-- The modulus of the middle scale, reduced. -/
def mmG (C : Ch) : Int := Gc (C.lf * C.rt) (C.lf + C.rt)
def mmN (C : Ch) : Int := if okCh C then (C.lf * C.rt) / mmG C else 0
def mmD (C : Ch) : Int := if okCh C then (C.lf + C.rt) / mmG C else 0
def mmC (C : Ch) : Int := if okCh C then 0 else 1
/-- The column of the middle scale. -/
def mcL (C : Ch) : Int := if okCh C then Fl (C.wd * C.lf) (C.lf + C.rt) else 0
def mcH (C : Ch) : Int := if okCh C then Cl (C.wd * C.lf) (C.lf + C.rt) else 0
def okFs (ps : List (Int × Int)) : Bool := ps.all fun p => okF p.1 p.2
theorem okFs_step {ps : List (Int × Int)} {k : Nat} (hk : k < ps.length) (h : okFs (ps.take k) = true) (hp : okF ps[k].1 ps[k].2 = true) : okFs (ps.take (k + 1)) = true := by
  unfold okFs at *
  rw [List.take_succ_eq_append_getElem hk, List.all_append, h]; simp [hp]
theorem okFs_no {ps : List (Int × Int)} {k : Nat} (hk : k < ps.length) (hp : okF ps[k].1 ps[k].2 = false) : okFs ps = false := by
  unfold okFs
  rw [List.all_eq_false]
  exact ⟨_, List.getElem_mem hk, by simp [hp]⟩
theorem areFigures_c (A : Option Addr) (c : Nat) (ps : List (Int × Int)) (hn : ps.length ≤ 1048576) (w : World) (hA : Prs w A ps) :
    Calls Try.prog 44 #[.slice A ps.length c] w fun e w' => e = .returned (.bool (okFs ps)) ∧ Below w.heap.size w w' := by
  go_enter Try.func44, Try.ntmps44
  go_wp2
  go_loopw [4, 7] (fun _ i wr => ∃ k : Nat, k ≤ ps.length ∧ i = .int .i64 k ∧ okFs (ps.take k) = true ∧ Below w.heap.size w wr) (fun _ i _ => ps.length - (intOf i).toNat)
  case atStart => exact ⟨0, Nat.zero_le _, rfl, rfl, Below.refl _ _⟩
  case round =>
    obtain ⟨k, hk, rfl, hok, hbel⟩ := hrel
    by_cases hlt : k < ps.length
    · obtain ⟨b, o, rfl, hbb, hc1, hc2⟩ := (Prs.step hbel hA).at_ k hlt
      obtain ⟨x, hx⟩ : ∃ x, x = ps[k].1 := ⟨_, rfl⟩
      obtain ⟨y, hy⟩ : ∃ y, y = ps[k].2 := ⟨_, rfl⟩
      rw [← hx] at hc1
      rw [← hy] at hc2
      have hs := hbel.size
      by_cases h1 : okF x y = true
      · have HS := Lib.hid (okFs_step hlt hok (by rw [← hx, ← hy]; exact h1))
        clear hx hy hok
        go_wp2_with (first | (go_at_call 53; refine (IsFigure_I _ _ _).mono ?_; rintro e w1 ⟨rfl, hb1⟩; obtain ⟨hc1, hf1, hz1⟩ := bel hb1; (try simp only [World.size_drew, World.cell?_drew, World.frozen?_drew] at hc1 hf1 hz1); (try simp only [World.heap_drewN, World.cell?_drewN, World.frozen?_drewN] at hc1 hf1 hz1); (try have hl1 : w.heap.size < w1.heap.size := by (have hq := hb1.size; (try simp at hq); omega)); (try have hm1 : w.heap.size + 1 < w1.heap.size := by (have hq := hb1.size; (try simp at hq); omega)); (try have hn1 : w.heap.size + 1 + 1 < w1.heap.size := by (have hq := hb1.size; (try simp at hq); omega)); (try have hp1 : b < w1.heap.size := by (have hq := hb1.size; (try simp at hq); omega)); (try have ho1 : b' < w1.heap.size := by (have hq := hb1.size; (try simp at hq); omega))))
        go_roundw
        case rel => exact ⟨k + 1, by omega, by go_num, HS.out, by repeat (with_reducible first | exact Below.refl _ _ | assumption | refine Bel.alloc ?_ _ | refine Bel.step (by assumption) ?_ | refine Below.drew ?_ | refine Bel.drewN ?_ _ | refine Below.setCell ?_ (by first | exact Nat.le_refl _ | omega | (simp; done) | (simp; omega)) _)⟩
        case measure => simp [intOf]; omega
      · have h1' : okF x y = false := by simpa using h1
        have HF := Lib.hid (okFs_no hlt (by rw [← hx, ← hy]; exact h1'))
        clear hx hy hok h1
        go_wp2_with (first | (go_at_call 53; refine (IsFigure_I _ _ _).mono ?_; rintro e w1 ⟨rfl, hb1⟩; obtain ⟨hc1, hf1, hz1⟩ := bel hb1; (try simp only [World.size_drew, World.cell?_drew, World.frozen?_drew] at hc1 hf1 hz1); (try simp only [World.heap_drewN, World.cell?_drewN, World.frozen?_drewN] at hc1 hf1 hz1); (try have hl1 : w.heap.size < w1.heap.size := by (have hq := hb1.size; (try simp at hq); omega)); (try have hm1 : w.heap.size + 1 < w1.heap.size := by (have hq := hb1.size; (try simp at hq); omega)); (try have hn1 : w.heap.size + 1 + 1 < w1.heap.size := by (have hq := hb1.size; (try simp at hq); omega)); (try have hp1 : b < w1.heap.size := by (have hq := hb1.size; (try simp at hq); omega)); (try have ho1 : b' < w1.heap.size := by (have hq := hb1.size; (try simp at hq); omega))))
        go_ret
        exact ⟨by rw [HF.out]; rfl, by repeat (with_reducible first | exact Below.refl _ _ | assumption | refine Bel.alloc ?_ _ | refine Bel.step (by assumption) ?_ | refine Below.drew ?_ | refine Bel.drewN ?_ _ | refine Below.setCell ?_ (by first | exact Nat.le_refl _ | omega | (simp; done) | (simp; omega)) _)⟩
    · obtain rfl : k = ps.length := by omega
      rw [List.take_length] at hok
      have HF := Lib.hid hok
      clear hok
      go_wp2
      go_ret
      exact ⟨by rw [HF.out]; rfl, by repeat (with_reducible first | exact Below.refl _ _ | assumption | refine Bel.alloc ?_ _ | refine Bel.step (by assumption) ?_ | refine Below.drew ?_ | refine Bel.drewN ?_ _ | refine Below.setCell ?_ (by first | exact Nat.le_refl _ | omega | (simp; done) | (simp; omega)) _)⟩
/-- The code of a chart, an error of the eye and figures. -/
def clC (C : Ch) (e : Int) (ok : Bool) : Int := if okCh C && ok then (if inB e 0 200 then 0 else 2) else 1
/-- The safe bound of a chart. -/
def sbV (C : Ch) (e : Int) : Int := Cl ((2 + e) * 1048576 * (C.lf + C.rt)) (C.lf * C.rt) + 3 * (Ab (P0 C) + Ab (P1 C) + 2) + 4
def sbR (C : Ch) (e : Int) : Int := if clC C e true = 0 then sbV C e else 0
theorem clC_0 {C : Ch} {e : Int} {ok : Bool} (h : clC C e ok = 0) : okCh C = true ∧ ok = true ∧ inB e 0 200 = true := by
  unfold clC at h
  cases h1 : okCh C <;> cases ok <;> cases h2 : inB e 0 200 <;> simp_all
theorem Ab_six {a : Int} (h1 : -6 ≤ a) (h2 : a ≤ 6) : 0 ≤ Ab a ∧ Ab a ≤ 6 := by unfold Ab; split <;> omega
theorem sb_bd {C : Ch} {e : Int} (h : okCh C = true) (h1 : 0 ≤ e) (h2 : e ≤ 200) : (1 ≤ C.lf * C.rt ∧ C.lf * C.rt ≤ 400000000) ∧ (0 ≤ (2 + e) * 1048576 * (C.lf + C.rt) ∧ (2 + e) * 1048576 * (C.lf + C.rt) ≤ 9000000000000) ∧ -9000000000000 ≤ Cl ((2 + e) * 1048576 * (C.lf + C.rt)) (C.lf * C.rt) ∧ Cl ((2 + e) * 1048576 * (C.lf + C.rt)) (C.lf * C.rt) ≤ 9000000000000 := by
  obtain ⟨_, _, ⟨a5, a6⟩, ⟨a1, a2⟩, ⟨a3, a4⟩, _, _⟩ := okCh_iff h
  obtain ⟨m1, m2⟩ := mul_pos_bd (A := 20000) (B := 20000) (show 1 ≤ C.lf by omega) a2 (show 1 ≤ C.rt by omega) a4
  obtain ⟨n1, n2⟩ := mul_pos_bd (a := (2 + e) * 1048576) (b := C.lf + C.rt) (A := 211812352) (B := 40000) (by omega) (by omega) (by omega) (by omega)
  obtain ⟨c1, c2⟩ := Cl_bd ((2 + e) * 1048576 * (C.lf + C.rt)) (C.lf * C.rt) 9000000000000 (by omega) (by omega)
  exact ⟨⟨m1, by omega⟩, ⟨by omega, by omega⟩, c1, c2⟩
end Go.Proofs.Ytlphcpmneioogaa
