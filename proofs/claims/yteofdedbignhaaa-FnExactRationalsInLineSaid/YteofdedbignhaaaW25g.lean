/- The statement on rational points in line, walked. No conditions. -/
import Derived.Test.YteofdedbignhaaaProg
import Derived.Test.YteofdedbignhaaaBase
import Derived.Test.YteofdedbignhaaaL01
import Derived.Test.YteofdedbignhaaaCp
import Derived.Test.YteofdedbignhaaaL25
import Derived.Test.YteofdedbignhaaaL25b
import Derived.Test.YteofdedbignhaaaL25g
import Derived.WalkKit
import Derived.WalkSpells
import Derived.WalkLawsBesides
import Derived.Lib.Hide
import Derived.Deep.QuietTactic
import Derived.BigQuiet
import Derived.Deep.Draws
import Derived.Deep.RegionHeld3
namespace Go.Proofs.Yteofdedbignhaaa
open Go.RowKit
set_option linter.unusedVariables false
theorem FnExactRationalsInLine_w (w : World) (a b c : Int) (ga : (Lit.int .i64 a).wf = true) (gb : (Lit.int .i64 b).wf = true) (gc : (Lit.int .i64 c).wf = true) (d e f : Int) (gd : (Lit.int .i64 d).wf = true) (ge : (Lit.int .i64 e).wf = true) (gf : (Lit.int .i64 f).wf = true) (g h i : Int) (gg : (Lit.int .i64 g).wf = true) (gh : (Lit.int .i64 h).wf = true) (gi : (Lit.int .i64 i).wf = true) :
    Calls Try.prog 9 #[.agg #[.int .i64 a, .int .i64 b, .int .i64 c], .agg #[.int .i64 d, .int .i64 e, .int .i64 f], .agg #[.int .i64 g, .int .i64 h, .int .i64 i]] w fun r w' => r = .returned (.bool true) ∧ Below w.heap.size w w' := by
  go_enter Try.func9, Try.ntmps9
  go_wp2
  go_region_held3 (fun w' => w'.cell? ⟨w.heap.size, 0, none⟩ = some (.int .i64 a) ∧ w'.cell? ⟨w.heap.size, 1, none⟩ = some (.int .i64 b) ∧ w'.cell? ⟨w.heap.size, 2, none⟩ = some (.int .i64 c) ∧ w'.cell? ⟨w.heap.size + 1, 0, none⟩ = some (.int .i64 d) ∧ w'.cell? ⟨w.heap.size + 1, 1, none⟩ = some (.int .i64 e) ∧ w'.cell? ⟨w.heap.size + 1, 2, none⟩ = some (.int .i64 f) ∧ w'.cell? ⟨w.heap.size + 1 + 1, 0, none⟩ = some (.int .i64 g) ∧ w'.cell? ⟨w.heap.size + 1 + 1, 1, none⟩ = some (.int .i64 h) ∧ w'.cell? ⟨w.heap.size + 1 + 1, 2, none⟩ = some (.int .i64 i)) (simp [go_sem, *])
      (first | (go_at_call 32; refine (toRational_c _ _ _ _).mono ?_; rintro e wa ⟨rfl, hba⟩; obtain ⟨hca, hfa, hza⟩ := bel hba; (try simp only [World.size_drew, World.cell?_drew, World.frozen?_drew, World.heap_drewN, World.cell?_drewN, World.frozen?_drewN] at hca hfa hza); (try have hla : w.heap.size < wa.heap.size := by (have hq := hba.size; (try simp at hq); omega)); (try have hma : w.heap.size + 1 < wa.heap.size := by (have hq := hba.size; (try simp at hq); omega)); (try have hna : w.heap.size + 1 + 1 < wa.heap.size := by (have hq := hba.size; (try simp at hq); omega)); (try have hpa : b < wa.heap.size := by (have hq := hba.size; (try simp at hq); omega)); (try have hoa : b' < wa.heap.size := by (have hq := hba.size; (try simp at hq); omega))) | (go_at_call 31; refine (RationalsInLine_S _ _ _ _ _ _ _ _ _ _).mono ?_; rintro e wx ⟨rfl, hbx⟩; obtain ⟨hcx, hfx, hzx⟩ := bel hbx; (try simp only [World.size_drew, World.cell?_drew, World.frozen?_drew, World.heap_drewN, World.cell?_drewN, World.frozen?_drewN] at hcx hfx hzx); (try have hlx : w.heap.size < wx.heap.size := by (have hq := hbx.size; (try simp at hq); omega)); (try have hmx : w.heap.size + 1 < wx.heap.size := by (have hq := hbx.size; (try simp at hq); omega)); (try have hnx : w.heap.size + 1 + 1 < wx.heap.size := by (have hq := hbx.size; (try simp at hq); omega)); (try have hpx : b < wx.heap.size := by (have hq := hbx.size; (try simp at hq); omega)); (try have hox : b' < wx.heap.size := by (have hq := hbx.size; (try simp at hq); omega))))
  have hb8 : Below w.heap.size w wx := by repeat (with_reducible first | exact Below.refl _ _ | assumption | refine Bel.alloc ?_ _ | refine Bel.step (by assumption) ?_ | refine Below.drew ?_ | refine Bel.drewN ?_ _ | refine Below.setCell ?_ (by first | exact Nat.le_refl _ | omega | (simp; done) | (simp; omega)) _)
  have p0 : wx.cell? ⟨w.heap.size, 0, none⟩ = some (.int .i64 a) := by simp [go_sem, *]
  have p1 : wx.cell? ⟨w.heap.size, 1, none⟩ = some (.int .i64 b) := by simp [go_sem, *]
  have p2 : wx.cell? ⟨w.heap.size, 2, none⟩ = some (.int .i64 c) := by simp [go_sem, *]
  have p3 : wx.cell? ⟨w.heap.size + 1, 0, none⟩ = some (.int .i64 d) := by simp [go_sem, *]
  have p4 : wx.cell? ⟨w.heap.size + 1, 1, none⟩ = some (.int .i64 e) := by simp [go_sem, *]
  have p5 : wx.cell? ⟨w.heap.size + 1, 2, none⟩ = some (.int .i64 f) := by simp [go_sem, *]
  have p6 : wx.cell? ⟨w.heap.size + 1 + 1, 0, none⟩ = some (.int .i64 g) := by simp [go_sem, *]
  have p7 : wx.cell? ⟨w.heap.size + 1 + 1, 1, none⟩ = some (.int .i64 h) := by simp [go_sem, *]
  have p8 : wx.cell? ⟨w.heap.size + 1 + 1, 2, none⟩ = some (.int .i64 i) := by simp [go_sem, *]
  generalize wx = U at *
  clear hcx hfx hzx hbx
  go_wp2
  go_region_held3 (fun w' => w'.cell? ⟨w.heap.size, 0, none⟩ = some (.int .i64 a) ∧ w'.cell? ⟨w.heap.size, 1, none⟩ = some (.int .i64 b) ∧ w'.cell? ⟨w.heap.size, 2, none⟩ = some (.int .i64 c) ∧ w'.cell? ⟨w.heap.size + 1, 0, none⟩ = some (.int .i64 d) ∧ w'.cell? ⟨w.heap.size + 1, 1, none⟩ = some (.int .i64 e) ∧ w'.cell? ⟨w.heap.size + 1, 2, none⟩ = some (.int .i64 f) ∧ w'.cell? ⟨w.heap.size + 1 + 1, 0, none⟩ = some (.int .i64 g) ∧ w'.cell? ⟨w.heap.size + 1 + 1, 1, none⟩ = some (.int .i64 h) ∧ w'.cell? ⟨w.heap.size + 1 + 1, 2, none⟩ = some (.int .i64 i)) (simp [go_sem, *])
      (first | (go_at_call 32; refine (toRational_c _ _ _ _).mono ?_; rintro e wa ⟨rfl, hba⟩; obtain ⟨hca, hfa, hza⟩ := bel hba; (try simp only [World.size_drew, World.cell?_drew, World.frozen?_drew, World.heap_drewN, World.cell?_drewN, World.frozen?_drewN] at hca hfa hza); (try have hla : w.heap.size < wa.heap.size := by (have hq := hba.size; (try simp at hq); omega)); (try have hma : w.heap.size + 1 < wa.heap.size := by (have hq := hba.size; (try simp at hq); omega)); (try have hna : w.heap.size + 1 + 1 < wa.heap.size := by (have hq := hba.size; (try simp at hq); omega)); (try have hpa : b < wa.heap.size := by (have hq := hba.size; (try simp at hq); omega)); (try have hoa : b' < wa.heap.size := by (have hq := hba.size; (try simp at hq); omega))) | (go_at_call 33; refine (RationalsInLine_I _ _ _ _ _ _ _ _ _ _).mono ?_; rintro e wx ⟨rfl, hbx⟩; obtain ⟨hcx, hfx, hzx⟩ := bel hbx; (try simp only [World.size_drew, World.cell?_drew, World.frozen?_drew, World.heap_drewN, World.cell?_drewN, World.frozen?_drewN] at hcx hfx hzx); (try have hlx : w.heap.size < wx.heap.size := by (have hq := hbx.size; (try simp at hq); omega)); (try have hmx : w.heap.size + 1 < wx.heap.size := by (have hq := hbx.size; (try simp at hq); omega)); (try have hnx : w.heap.size + 1 + 1 < wx.heap.size := by (have hq := hbx.size; (try simp at hq); omega)); (try have hpx : b < wx.heap.size := by (have hq := hbx.size; (try simp at hq); omega)); (try have hox : b' < wx.heap.size := by (have hq := hbx.size; (try simp at hq); omega))))
  go_wp2
  go_ret
  exact ⟨rfl, by repeat (with_reducible first | exact Below.refl _ _ | assumption | refine Bel.alloc ?_ _ | refine Bel.step (by assumption) ?_ | refine Below.drew ?_ | refine Bel.drewN ?_ _ | refine Below.setCell ?_ (by first | exact Nat.le_refl _ | omega | (simp; done) | (simp; omega)) _)⟩
end Go.Proofs.Yteofdedbignhaaa
