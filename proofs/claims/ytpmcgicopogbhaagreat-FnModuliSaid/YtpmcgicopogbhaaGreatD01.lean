/- Draws: the source, the next number, one of some numbers. Conditions: as stated at each contract. -/
import Derived.Test.YtpmcgicopogbhaaGreatProg
import Derived.Test.YtpmcgicopogbhaaGreatBase
import Derived.Test.YtpmcgicopogbhaaGreatRw
import Derived.Test.YtpmcgicopogbhaaGreatL01
import Derived.Test.YtpmcgicopogbhaaGreatD00
import Derived.WalkKit
import Derived.WalkSpells
import Derived.WalkLawsBesides
import Derived.Lib.Hide
import Derived.Deep.QuietTactic
import Derived.BigQuiet
import Derived.Deep.Draws
import Derived.Deep.RegionHeld3
import Derived.StillTailTactics
import Derived.Deep.Cut
namespace Go.Proofs.YtpmcgicopogbhaaGreat
open Go.RowKit
set_option linter.unusedVariables false
set_option linter.unusedSimpArgs false
set_option maxHeartbeats 1000000 in
theorem l01From_c (A : Option Addr) (c : Nat) (zs : List Int) (hz : zs.length ≤ 4096) (w : World) (hA : Byts w A zs) :
    Calls Tryz.prog 44 #[.slice A zs.length c] w fun e w' => ∃ X, e = .returned (.pointer (some ⟨X, 0, none⟩)) ∧ w.heap.size ≤ X ∧ Src w' X A zs ∧ Below w.heap.size w w' := by
  have HA := Lib.hid hA
  clear hA
  go_enter Tryz.func44, Tryz.ntmps44
  go_wp2
  have hB0 : Blk (w.alloc (.cells #[.slice A zs.length c, .int .i64 0, .int .i64 17021] 125)) w.heap.size 125 #[.slice A zs.length c, .int .i64 0, .int .i64 17021] := Blk.new _ _ _
  have hS0 : Src (w.alloc (.cells #[.slice A zs.length c, .int .i64 0, .int .i64 17021] 125)) w.heap.size A zs :=
    ⟨hz, ⟨0, 17021, c, Nat.zero_le _, by omega, by omega, hB0⟩, HA.out.rng, fun hn => by
      obtain ⟨b, o, e, hb, hc⟩ := HA.out.cells hn
      exact ⟨b, o, e, hb, fun i hi => ((Bel.alloc (Below.refl _ _) _).cell (p := ⟨b, o + i, none⟩) hb).trans (hc i hi)⟩⟩
  have hbel0 : Below w.heap.size w (w.alloc (.cells #[.slice A zs.length c, .int .i64 0, .int .i64 17021] 125)) := by repeat (with_reducible first | exact Below.refl _ _ | assumption | refine Bel.alloc ?_ _ | refine Bel.step (by assumption) ?_ | refine Below.drew ?_ | refine Bel.drewN ?_ _ | refine Below.setCell ?_ (by first | exact Nat.le_refl _ | omega | (simp; done) | (simp; omega)) _)
  clear hB0
  obtain ⟨X, hX⟩ : ∃ X, X = w.heap.size := ⟨_, rfl⟩
  rw [← hX] at hS0 hbel0 ⊢
  have HX := Lib.hid hX
  clear hX
  go_loopw [4] (fun i wr => ∃ k : Nat, k ≤ zs.length ∧ i = .int .i64 k ∧ Src wr X A zs ∧ Below X w wr) (fun i _ => zs.length - (intOf i).toNat)
  case atStart => exact ⟨0, Nat.zero_le _, rfl, hS0, hbel0⟩
  case round =>
    clear hS0 hbel0
    obtain ⟨k, hk, rfl, hS, hbel⟩ := hrel
    by_cases hlt : k < zs.length
    · by_cases h64 : k < 64
      · obtain ⟨k0, sd, c0, h1, h2, h3, hB⟩ := hS.blk
        obtain ⟨b, o, rfl, hbX, hcs⟩ := hS.cells (by omega)
        have hc := hcs k hlt
        have hr := hS.rng k hlt
        have hlX := hB.lt
        generalize zs.getD k 0 = z at hc hr
        obtain ⟨hr1, hr2⟩ := hr
        have p2 : wr.cell? ⟨X, 2, none⟩ = some (.int .i64 sd) := by rw [hB.cell]; rfl
        have q2 := hB.frozen 2
        have f1 : IntKind.i64.wrap (sd * 73) = sd * 73 := wr64 (by omega) (by omega)
        have f2 : IntKind.i64.wrap z = z := wr64 (by omega) (by omega)
        have f3 : IntKind.i64.wrap (sd * 73 + z) = sd * 73 + z := wr64 (by omega) (by omega)
        have f4 : (sd * 73 + z).tmod 2147483647 = (sd * 73 + z) % 2147483647 := Int.tmod_eq_emod_of_nonneg (by omega)
        have hS2 : Src (wr.drew.setCell ⟨X, 2, none⟩ (.int .i64 ((sd * 73 + z) % 2147483647))) X (some ⟨b, o, none⟩) zs :=
          Src.put (c := c0) (k := k0) (sd := (sd * 73 + z) % 2147483647) hS (Kp.setX _ _ (Kp.drew (Kp.refl _ _))) h1 (by omega) (by omega) (by have := (hB.drew).set_ 2 (.int .i64 ((sd * 73 + z) % 2147483647)); simpa using this)
        have hbel2 : Below X w (wr.drew.setCell ⟨X, 2, none⟩ (.int .i64 ((sd * 73 + z) % 2147483647))) := (Below.drew hbel).setCell (p := ⟨X, 2, none⟩) (Nat.le_refl _) _
        have HS2 := Lib.hid hS2
        have HC := Lib.hid hcs
        clear hS2 hcs hB hS
        go_wp2
        set_option maxRecDepth 20000 in go_still_tail 15, (by kernel_rfl)
        go_wp2
        go_roundw
        case rel => exact ⟨k + 1, by omega, by go_num, HS2.out, hbel2⟩
        case measure => simp [intOf]; omega
      · go_wp2
        go_ret
        exact ⟨X, rfl, by rw [HX.out]; exact Nat.le_refl _, hS, by rw [← HX.out]; exact hbel⟩
    · obtain rfl : k = zs.length := by omega
      go_wp2
      go_ret
      exact ⟨X, rfl, by rw [HX.out]; exact Nat.le_refl _, hS, by rw [← HX.out]; exact hbel⟩
theorem DrI_mk {X : Nat} {A : Option Addr} {zs : List Int} {n : Int} {w w' : World} (a : Int) (h : 1 < n) (h1 : Src w' X A zs) (h2 : Kp X w w') : DrI X A zs (max n 1) w (.returned (.int .i64 (a % n))) w' :=
  ⟨_, rfl, Int.emod_nonneg _ (by omega), by rw [Int.max_eq_left (by omega)]; exact Int.emod_lt_of_pos _ (by omega), h1, h2⟩
set_option maxHeartbeats 1000000 in
theorem l01Next_c (X : Nat) (A : Option Addr) (zs : List Int) (n : Int) (hn : n ≤ 2147483647) (w : World) (hS : Src w X A zs) :
    Calls Tryz.prog 46 #[.pointer (some ⟨X, 0, none⟩), .int .i64 n] w (DrI X A zs (max n 1) w) := by
  obtain ⟨k, sd, c, h1, h2, h3, hB⟩ := hS.blk
  have hlen := hS.len
  have HS := Lib.hid hS
  clear hS
  have hlX := hB.lt
  go_enter Tryz.func46, Tryz.ntmps46
  by_cases hn1 : n ≤ 1
  · go_wp2
    go_ret
    exact ⟨0, rfl, by omega, by omega, HS.out, Kp.refl _ _⟩
  have p0 : w.cell? ⟨X, 0, none⟩ = some (.slice A zs.length c) := by rw [hB.cell]; rfl
  have p1 : w.cell? ⟨X, 1, none⟩ = some (.int .i64 k) := by rw [hB.cell]; rfl
  have p2 : w.cell? ⟨X, 2, none⟩ = some (.int .i64 sd) := by rw [hB.cell]; rfl
  have q2 := hB.frozen 2
  have q1 := hB.frozen 1
  have f1 : IntKind.i64.wrap (sd * 48271) = sd * 48271 := wr64 (by omega) (by omega)
  have f3 : IntKind.i64.wrap (sd * 48271 + 29) = sd * 48271 + 29 := wr64 (by omega) (by omega)
  have f4 : (sd * 48271 + 29).tmod 2147483647 = (sd * 48271 + 29) % 2147483647 := Int.tmod_eq_emod_of_nonneg (by omega)
  obtain ⟨s2, hs2⟩ : ∃ s2, s2 = (sd * 48271 + 29) % 2147483647 := ⟨_, rfl⟩
  have hs2a : 0 ≤ s2 := by omega
  have hs2b : s2 < 2147483647 := by omega
  rw [← hs2] at f4
  clear hs2
  go_wp2
  have hB1 : Blk (w.setCell ⟨X, 2, none⟩ (.int .i64 s2)) X 125 #[.slice A zs.length c, .int .i64 k, .int .i64 s2] := by have := hB.set_ 2 (.int .i64 s2); simpa using this
  have hk1 : Kp X w (w.setCell ⟨X, 2, none⟩ (.int .i64 s2)) := Kp.setX _ _ (Kp.refl _ _)
  have HS1 := Lib.hid (Src.put HS.out hk1 h1 hs2a hs2b hB1)
  generalize w.setCell ⟨X, 2, none⟩ (.int .i64 s2) = w1 at hB1 hk1 HS1 ⊢
  clear p0 p1 p2 q1 q2 f1 f3 f4 hB HS hlX
  have p0 : w1.cell? ⟨X, 0, none⟩ = some (.slice A zs.length c) := by rw [hB1.cell]; rfl
  have p1 : w1.cell? ⟨X, 1, none⟩ = some (.int .i64 k) := by rw [hB1.cell]; rfl
  have p2 : w1.cell? ⟨X, 2, none⟩ = some (.int .i64 s2) := by rw [hB1.cell]; rfl
  have q1 := hB1.frozen 1
  have hlX := hB1.lt
  go_region_held3 (fun w' => w'.cell? ⟨X, 0, none⟩ = some (.slice A zs.length c) ∧ w'.cell? ⟨X, 1, none⟩ = some (.int .i64 k)) (simp [go_sem, *]) (fail)
  by_cases hlt : k < zs.length
  rotate_left
  · go_wp2
    go_ret
    exact DrI_mk _ (by omega) HS1.out.drew hk1.drew
  obtain ⟨b, o, rfl, hbX, hcs⟩ := HS1.out.cells (by omega)
  have hc := hcs k hlt
  have hr := HS1.out.rng k hlt
  generalize zs.getD k 0 = z at hc hr
  obtain ⟨hr1, hr2⟩ := hr
  have hl2 : k + 1 ≤ zs.length := by omega
  have HB1 := Lib.hid hB1
  have g1 : IntKind.i64.wrap z = z := wr64 (by omega) (by omega)
  have g2 : IntKind.i64.wrap (s2 / 31 + z) = s2 / 31 + z := wr64 (by omega) (by omega)
  have g3 : ((k + 1 : Nat) : Int) = (k : Int) + 1 := by omega
  have HG3 := Lib.hid g3
  clear hB1 hcs g3
  go_wp2
  go_region_held3 (fun w' => w'.cell? ⟨X, 0, none⟩ = some (.slice (some ⟨b, o, none⟩) zs.length c) ∧ w'.cell? ⟨X, 1, none⟩ = some (.int .i64 k) ∧ w'.cell? ⟨b, o + k, none⟩ = some (.int .u8 z)) (simp [go_sem, *]) (fail)
  clear g1 g2
  go_upto_region 8 with (fail)
  have hB2 : Blk ((w1.setCell ⟨X, 1, none⟩ (.int .i64 ((k : Int) + 1))).drew.drew) X 125 #[.slice (some ⟨b, o, none⟩) zs.length c, .int .i64 ((k + 1 : Nat) : Int), .int .i64 s2] := by
    rw [HG3.out]; have := (HB1.out.set_ 1 (.int .i64 ((k : Int) + 1))).drew.drew; simpa using this
  have hk2 : Kp X w1 ((w1.setCell ⟨X, 1, none⟩ (.int .i64 ((k : Int) + 1))).drew.drew) := (Kp.setX _ _ (Kp.refl _ _)).drew.drew
  have HS2 := Lib.hid (Src.put HS1.out hk2 hl2 hs2a hs2b hB2)
  have hkk := Kp.trans hk1 hk2
  rw [HG3.out] at hB2
  have hc2 : ((w1.setCell ⟨X, 1, none⟩ (.int .i64 ((k : Int) + 1))).drew.drew).cell? ⟨b, o + k, none⟩ = some (.int .u8 z) := (World.cell?_of_block (hk2.block b (by omega) (by simp; omega))).trans hc
  generalize (w1.setCell ⟨X, 1, none⟩ (.int .i64 ((k : Int) + 1))).drew.drew = w2 at hB2 hkk HS2 hc2 ⊢
  clear p0 p1 p2 q1 hk1 hk2 hlX HB1 HS1 HG3 hc
  have p0 : w2.cell? ⟨X, 0, none⟩ = some (.slice (some ⟨b, o, none⟩) zs.length c) := by rw [hB2.cell]; rfl
  have p1 : w2.cell? ⟨X, 1, none⟩ = some (.int .i64 ((k : Int) + 1)) := by rw [hB2.cell]; rfl
  by_cases h256 : n ≤ 256
  rotate_left
  · go_wp2
    go_ret
    exact DrI_mk _ (by omega) HS2.out hkk
  by_cases hpar : ((k : Int) + 1) % 2 = 0
  · have g1 : IntKind.i64.wrap z = z := wr64 (by omega) (by omega)
    have g2 : IntKind.i64.wrap (k : Int) = k := wr64 (by omega) (by omega)
    go_wp2
    go_region_held3 (fun w' => w'.cell? ⟨X, 0, none⟩ = some (.slice (some ⟨b, o, none⟩) zs.length c) ∧ w'.cell? ⟨X, 1, none⟩ = some (.int .i64 ((k : Int) + 1)) ∧ w'.cell? ⟨b, o + k, none⟩ = some (.int .u8 z)) (simp [go_sem, *]) (fail)
    go_wp2
    go_ret
    exact DrI_mk _ (by omega) HS2.out.drew hkk.drew
  · go_wp2
    go_ret
    exact DrI_mk _ (by omega) HS2.out hkk
set_option maxHeartbeats 1000000 in
theorem l01Pick_c (X : Nat) (A : Option Addr) (zs : List Int) (g m : Nat) (T : TypeId) (cs : Array Value) (w : World) (hS : Src w X A zs) (hB : Blk w g T cs) (hm : cs.size = m) (h0 : 0 < m) (h1 : m ≤ 1000) (hi : cs.all isI = true) (hg : g ≠ X) :
    Calls Tryz.prog 79 #[.pointer (some ⟨X, 0, none⟩), .slice (some ⟨g, 0, none⟩) m m] w (DrP X A zs cs w) := by
  have HM := Lib.hid hm
  have HI := Lib.hid hi
  clear hm hi
  go_enter Tryz.func79, Tryz.ntmps79
  go_wp2_with fail
  go_at_call 46; refine (l01Next_c X A zs m (by omega) _ hS).mono ?_; rintro e w1 ⟨x, rfl, hx0, hx1, hd⟩
  obtain ⟨j, rfl⟩ : ∃ j : Nat, x = j := ⟨x.toNat, by omega⟩
  have hj : j < m := by omega
  obtain ⟨z, hz⟩ := isI_at HI.out (i := j) (by rw [HM.out]; exact hj)
  have hc : w1.cell? ⟨g, j, none⟩ = some (.int .i64 z) := by rw [(hB.kp hd.kp hg).cell]; exact hz
  have HZ := Lib.hid hz
  clear hz hx1
  go_wp2
  go_ret
  exact ⟨z, j, by rw [HM.out]; exact hj, HZ.out, rfl, hd⟩
end Go.Proofs.YtpmcgicopogbhaaGreat
