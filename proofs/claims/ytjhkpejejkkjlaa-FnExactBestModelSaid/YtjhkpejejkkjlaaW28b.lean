/- The statement on the best model, walked. No conditions. -/
import Derived.Test.YtjhkpejejkkjlaaProg
import Derived.Test.YtjhkpejejkkjlaaBase
import Derived.Test.YtjhkpejejkkjlaaL01
import Derived.Test.YtjhkpejejkkjlaaCp
import Derived.Test.YtjhkpejejkkjlaaL28
import Derived.Test.YtjhkpejejkkjlaaL28b
import Derived.Test.YtjhkpejejkkjlaaL28c
import Derived.WalkKit
import Derived.WalkSpells
import Derived.WalkLawsBesides
import Derived.Lib.Hide
namespace Go.Proofs.Ytjhkpejejkkjlaa
open Go.RowKit
set_option linter.unusedVariables false
set_option maxHeartbeats 800000 in
theorem FnExactBestModel_w (w : World) (A : Option Addr) (c : Nat) (zs : List (Int × Int)) (hl : zs.length ≤ 9223372036854775807) (hA : Prs w A zs) (step : Int) (g1 : (Lit.int .i64 step).wf = true) :
    Calls Try.prog 7 #[.slice A zs.length c, .int .i64 step] w fun e w' => e = .returned (.bool true) ∧ Below w.heap.size w w' := by
  by_cases hn : zs.length ≤ 1048576
  · have HZ := Lib.hid (show szV 1048576 zs.length = 1048576 - zs.length by simp [szV]; omega)
    have hn0 : (0 : Int) ≤ 1048576 - zs.length := by omega
    go_enter Try.func7, Try.ntmps7
    go_wp2_with fail
    go_at_call 30; refine (szTestS_c _ _ _ _ (by omega) (by omega) (by assumption) _).mono ?_; rintro e w' ⟨rfl, rfl⟩
    rw [HZ.out]
    go_wp2_with fail
    go_at_call 32; refine (toTestS_c _ _ _ hn _ hA).mono ?_; rintro e w2 ⟨rfl, hB2, hb2⟩; obtain ⟨hc2, hf2, hz2⟩ := bel hb2; (try simp only [World.size_drew, World.cell?_drew, World.frozen?_drew] at hc2 hf2 hz2); (try simp only [World.heap_drewN, World.cell?_drewN, World.frozen?_drewN] at hc2 hf2 hz2); (try have hl2 : w.heap.size < w2.heap.size := by (have hq := hb2.size; (try simp at hq); omega)); (try have hm2 : w.heap.size + 1 < w2.heap.size := by (have hq := hb2.size; (try simp at hq); omega)); (try have hn2 : w.heap.size + 1 + 1 < w2.heap.size := by (have hq := hb2.size; (try simp at hq); omega)); (try have hp2 : b < w2.heap.size := by (have hq := hb2.size; (try simp at hq); omega)); (try have ho2 : b' < w2.heap.size := by (have hq := hb2.size; (try simp at hq); omega))
    go_wp2_with fail
    go_at_call 31; refine (BestModel_S _ _ _ _ hn _ hB2.prs).mono ?_; rintro e w3 ⟨rfl, hb3⟩; obtain ⟨hc3, hf3, hz3⟩ := bel hb3; (try simp only [World.size_drew, World.cell?_drew, World.frozen?_drew] at hc3 hf3 hz3); (try simp only [World.heap_drewN, World.cell?_drewN, World.frozen?_drewN] at hc3 hf3 hz3); (try have hl3 : w.heap.size < w3.heap.size := by (have hq := hb3.size; (try simp at hq); omega)); (try have hm3 : w.heap.size + 1 < w3.heap.size := by (have hq := hb3.size; (try simp at hq); omega)); (try have hn3 : w.heap.size + 1 + 1 < w3.heap.size := by (have hq := hb3.size; (try simp at hq); omega)); (try have hp3 : b < w3.heap.size := by (have hq := hb3.size; (try simp at hq); omega)); (try have ho3 : b' < w3.heap.size := by (have hq := hb3.size; (try simp at hq); omega))
    have hbel3 : Below w.heap.size w w3 := by repeat (with_reducible first | exact Below.refl _ _ | assumption | refine Bel.alloc ?_ _ | refine Bel.step (by assumption) ?_ | refine Below.drew ?_ | refine Bel.drewN ?_ _ | refine Below.setCell ?_ (by first | exact Nat.le_refl _ | omega | (simp; done) | (simp; omega)) _)
    go_wp2_with fail
    go_at_call 32; refine (toTestS_c _ _ _ hn _ (Prs.alloc _ (Prs.step hbel3 hA))).mono ?_; rintro e w4 ⟨rfl, hB4, hb4⟩; obtain ⟨hc4, hf4, hz4⟩ := bel hb4; (try simp only [World.size_drew, World.cell?_drew, World.frozen?_drew] at hc4 hf4 hz4); (try simp only [World.heap_drewN, World.cell?_drewN, World.frozen?_drewN] at hc4 hf4 hz4); (try have hl4 : w.heap.size < w4.heap.size := by (have hq := hb4.size; (try simp at hq); omega)); (try have hm4 : w.heap.size + 1 < w4.heap.size := by (have hq := hb4.size; (try simp at hq); omega)); (try have hn4 : w.heap.size + 1 + 1 < w4.heap.size := by (have hq := hb4.size; (try simp at hq); omega)); (try have hp4 : b < w4.heap.size := by (have hq := hb4.size; (try simp at hq); omega)); (try have ho4 : b' < w4.heap.size := by (have hq := hb4.size; (try simp at hq); omega))
    have hB4c : Blk w4 (w3.heap.size + 1) 104 (icells (flat zs)) := by simpa using hB4
    have hW4 := Blk.step hb4 (Blk.new w3 54 #[.int .i64 (bmS step zs), .int .i64 (bmZ step zs)])
    have hbel4 : Below w.heap.size w w4 := by repeat (with_reducible first | exact Below.refl _ _ | assumption | refine Bel.alloc ?_ _ | refine Bel.step (by assumption) ?_ | refine Below.drew ?_ | refine Bel.drewN ?_ _ | refine Below.setCell ?_ (by first | exact Nat.le_refl _ | omega | (simp; done) | (simp; omega)) _)
    go_wp2_with fail
    go_at_call 33; refine (BestModel_I _ _ _ _ hn _ hB4c.prs).mono ?_; rintro e w6 ⟨rfl, hb6⟩; obtain ⟨hc6, hf6, hz6⟩ := bel hb6; (try simp only [World.size_drew, World.cell?_drew, World.frozen?_drew] at hc6 hf6 hz6); (try simp only [World.heap_drewN, World.cell?_drewN, World.frozen?_drewN] at hc6 hf6 hz6); (try have hl6 : w.heap.size < w6.heap.size := by (have hq := hb6.size; (try simp at hq); omega)); (try have hm6 : w.heap.size + 1 < w6.heap.size := by (have hq := hb6.size; (try simp at hq); omega)); (try have hn6 : w.heap.size + 1 + 1 < w6.heap.size := by (have hq := hb6.size; (try simp at hq); omega)); (try have hp6 : b < w6.heap.size := by (have hq := hb6.size; (try simp at hq); omega)); (try have ho6 : b' < w6.heap.size := by (have hq := hb6.size; (try simp at hq); omega))
    have hW6 := Blk.step hb6 hW4
    have k0 : w6.cell? ⟨w3.heap.size, 0, none⟩ = some (.int .i64 (bmS step zs)) := by rw [hW6.cell]; rfl
    have k1 : w6.cell? ⟨w3.heap.size, 1, none⟩ = some (.int .i64 (bmZ step zs)) := by rw [hW6.cell]; rfl
    have klt := hW6.lt
    have hbel6 : Below w.heap.size w w6 := by repeat (with_reducible first | exact Below.refl _ _ | assumption | refine Bel.alloc ?_ _ | refine Bel.step (by assumption) ?_ | refine Below.drew ?_ | refine Bel.drewN ?_ _ | refine Below.setCell ?_ (by first | exact Nat.le_refl _ | omega | (simp; done) | (simp; omega)) _)
    have hB6 := Blk.step hb6 hB4c
    clear hb2 hc2 hf2 hz2 hb3 hc3 hf3 hz3 hb4 hc4 hf4 hz4 hb6 hc6 hf6 hz6 hW4 hW6
    go_wp2_with fail
    go_at_call 34; refine (eqModel_c _ _ _ _ _).mono ?_; rintro e w7 ⟨rfl, hb7⟩; obtain ⟨hc7, hf7, hz7⟩ := bel hb7; (try simp only [World.size_drew, World.cell?_drew, World.frozen?_drew] at hc7 hf7 hz7); (try simp only [World.heap_drewN, World.cell?_drewN, World.frozen?_drewN] at hc7 hf7 hz7); (try have hl7 : w.heap.size < w7.heap.size := by (have hq := hb7.size; (try simp at hq); omega)); (try have hm7 : w.heap.size + 1 < w7.heap.size := by (have hq := hb7.size; (try simp at hq); omega)); (try have hn7 : w.heap.size + 1 + 1 < w7.heap.size := by (have hq := hb7.size; (try simp at hq); omega)); (try have hp7 : b < w7.heap.size := by (have hq := hb7.size; (try simp at hq); omega)); (try have ho7 : b' < w7.heap.size := by (have hq := hb7.size; (try simp at hq); omega))
    rw [eqP_self]
    have hB7 := Blk.step hb7 (Blk.alloc (.cells #[.int .i64 (bmS step zs), .int .i64 (bmZ step zs)] 54) hB6)
    have hbel7 : Below w.heap.size w w7 := by repeat (with_reducible first | exact Below.refl _ _ | assumption | refine Bel.alloc ?_ _ | refine Bel.step (by assumption) ?_ | refine Below.drew ?_ | refine Bel.drewN ?_ _ | refine Below.setCell ?_ (by first | exact Nat.le_refl _ | omega | (simp; done) | (simp; omega)) _)
    go_wp2_with fail
    go_at_call 32; refine (toTestS_c _ _ _ hn _ (Prs.step hbel7 hA)).mono ?_; rintro e w8 ⟨rfl, hB8, hb8⟩; obtain ⟨hc8, hf8, hz8⟩ := bel hb8; (try simp only [World.size_drew, World.cell?_drew, World.frozen?_drew] at hc8 hf8 hz8); (try simp only [World.heap_drewN, World.cell?_drewN, World.frozen?_drewN] at hc8 hf8 hz8); (try have hl8 : w.heap.size < w8.heap.size := by (have hq := hb8.size; (try simp at hq); omega)); (try have hm8 : w.heap.size + 1 < w8.heap.size := by (have hq := hb8.size; (try simp at hq); omega)); (try have hn8 : w.heap.size + 1 + 1 < w8.heap.size := by (have hq := hb8.size; (try simp at hq); omega)); (try have hp8 : b < w8.heap.size := by (have hq := hb8.size; (try simp at hq); omega)); (try have ho8 : b' < w8.heap.size := by (have hq := hb8.size; (try simp at hq); omega))
    have hB8b := Blk.step hb8 hB7
    go_wp2_with fail
    go_at_call 35; refine (eqTestS_c _ _ _ _ _ _ hn hn _ hB8b.prs hB8.prs).mono ?_; rintro e w9 ⟨rfl, hb9⟩; obtain ⟨hc9, hf9, hz9⟩ := bel hb9; (try simp only [World.size_drew, World.cell?_drew, World.frozen?_drew] at hc9 hf9 hz9); (try simp only [World.heap_drewN, World.cell?_drewN, World.frozen?_drewN] at hc9 hf9 hz9); (try have hl9 : w.heap.size < w9.heap.size := by (have hq := hb9.size; (try simp at hq); omega)); (try have hm9 : w.heap.size + 1 < w9.heap.size := by (have hq := hb9.size; (try simp at hq); omega)); (try have hn9 : w.heap.size + 1 + 1 < w9.heap.size := by (have hq := hb9.size; (try simp at hq); omega)); (try have hp9 : b < w9.heap.size := by (have hq := hb9.size; (try simp at hq); omega)); (try have ho9 : b' < w9.heap.size := by (have hq := hb9.size; (try simp at hq); omega))
    rw [eqL_self]
    go_wp2
    go_ret
    exact ⟨rfl, by repeat (with_reducible first | exact Below.refl _ _ | assumption | refine Bel.alloc ?_ _ | refine Bel.step (by assumption) ?_ | refine Below.drew ?_ | refine Bel.drewN ?_ _ | refine Below.setCell ?_ (by first | exact Nat.le_refl _ | omega | (simp; done) | (simp; omega)) _)⟩
  · have HZ := Lib.hid (show szV 1048576 zs.length = -1 by simp [szV]; omega)
    go_enter Try.func7, Try.ntmps7
    go_wp2_with fail
    go_at_call 30; refine (szTestS_c _ _ _ _ (by omega) (by omega) (by assumption) _).mono ?_; rintro e w' ⟨rfl, rfl⟩
    rw [HZ.out]
    go_wp2
    go_ret
    exact ⟨rfl, by repeat (with_reducible first | exact Below.refl _ _ | assumption | refine Bel.alloc ?_ _ | refine Bel.step (by assumption) ?_ | refine Below.drew ?_ | refine Bel.drewN ?_ _ | refine Below.setCell ?_ (by first | exact Nat.le_refl _ | omega | (simp; done) | (simp; omega)) _)⟩
end Go.Proofs.Ytjhkpejejkkjlaa
