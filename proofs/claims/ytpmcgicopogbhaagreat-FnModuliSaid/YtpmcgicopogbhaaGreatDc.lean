/- The statements' own dice. Conditions: as stated at each contract. -/
import Derived.Test.YtpmcgicopogbhaaGreatProg
import Derived.Test.YtpmcgicopogbhaaGreatBase
import Derived.Test.YtpmcgicopogbhaaGreatRw
import Derived.Test.YtpmcgicopogbhaaGreatL01
import Derived.Test.YtpmcgicopogbhaaGreatD00
import Derived.WalkKit
import Derived.WalkSpells
import Derived.WalkLawsBesides
import Derived.Lib.Hide
import Derived.Deep.QuietTactic
import Derived.BigQuiet
import Derived.Deep.Draws
import Derived.Deep.RegionHeld3
import Derived.StillTailTactics
import Derived.Deep.Cut
import Derived.Laws.Bits64b
namespace Go.Proofs.YtpmcgicopogbhaaGreat
open Go.RowKit
set_option linter.unusedVariables false
set_option linter.unusedSimpArgs false
/-- The dice lie at block X, over these bytes. -/
structure Dic (w : World) (X : Nat) (A : Option Addr) (zs : List Int) : Prop where
  len : zs.length ≤ 4096
  blk : ∃ (k : Nat) (h : Int) (c : Nat), k ≤ zs.length ∧ Blk w X 122 #[.slice A zs.length c, .int .i64 (k : Int), .int .u64 h]
  rng : ∀ i, i < zs.length → 0 ≤ zs.getD i 0 ∧ zs.getD i 0 ≤ 255
  cells : 0 < zs.length → ∃ b o, A = some ⟨b, o, none⟩ ∧ b < X ∧ ∀ i, i < zs.length → w.cell? ⟨b, o + i, none⟩ = some (.int .u8 (zs.getD i 0))
theorem Dic.lt {w : World} {X : Nat} {A : Option Addr} {zs : List Int} (h : Dic w X A zs) : X < w.heap.size := by
  obtain ⟨_, _, _, _, hB⟩ := h.blk; exact hB.lt
theorem Dic.step {W w' : World} {X : Nat} {A : Option Addr} {zs : List Int} (hb : Below W.heap.size W w') (h : Dic W X A zs) : Dic w' X A zs := by
  have hX := h.lt
  obtain ⟨k, hh, c, h1, hB⟩ := h.blk
  refine ⟨h.len, ⟨k, hh, c, h1, Blk.step hb hB⟩, h.rng, fun hn => ?_⟩
  obtain ⟨b, o, e, hlt, hc⟩ := h.cells hn
  exact ⟨b, o, e, hlt, fun i hi => (hb.cell (p := ⟨b, o + i, none⟩) (by simp; omega)).trans (hc i hi)⟩
theorem Dic.alloc {w : World} {X : Nat} {A : Option Addr} {zs : List Int} (o : Obj) (h : Dic w X A zs) : Dic (w.alloc o) X A zs := Dic.step (Bel.alloc (Below.refl _ _) o) h
theorem Dic.drew {w : World} {X : Nat} {A : Option Addr} {zs : List Int} (h : Dic w X A zs) : Dic w.drew X A zs := ⟨h.len, h.blk, h.rng, h.cells⟩
theorem Dic.drewN {w : World} {X : Nat} {A : Option Addr} {zs : List Int} (n : Nat) (h : Dic w X A zs) : Dic (w.drewN n) X A zs := ⟨h.len, h.blk, h.rng, h.cells⟩
theorem Dic.put {w w' : World} {X : Nat} {A : Option Addr} {zs : List Int} (h : Dic w X A zs) (hk : Kp X w w') {k : Nat} {hh : Int} {c : Nat} (h1 : k ≤ zs.length) (hB : Blk w' X 122 #[.slice A zs.length c, .int .i64 (k : Int), .int .u64 hh]) : Dic w' X A zs := by
  have hX := h.lt
  refine ⟨h.len, ⟨k, hh, c, h1, hB⟩, h.rng, fun hn => ?_⟩
  obtain ⟨b, o, e, hlt, hc⟩ := h.cells hn
  exact ⟨b, o, e, hlt, fun i hi => (World.cell?_of_block (hk.block b (by omega) (by simp; omega))).trans (hc i hi)⟩
set_option maxHeartbeats 1000000 in
theorem roll_c (A : Option Addr) (c : Nat) (zs : List Int) (hz : zs.length ≤ 4096) (sd : Int) (w : World) (hA : Byts w A zs) :
    Calls Tryz.prog 40 #[.slice A zs.length c, .int .u64 sd] w fun e w' => ∃ X, e = .returned (.pointer (some ⟨X, 0, none⟩)) ∧ w.heap.size ≤ X ∧ Dic w' X A zs ∧ Below w.heap.size w w' := by
  have HA := Lib.hid hA
  clear hA
  go_enter Tryz.func40, Tryz.ntmps40
  go_wp2
  generalize IntKind.u64.wrap (IntKind.u64.wrap (sd * 7919) + (zs.length : Int)) = h0
  have hD0 : Dic (w.alloc (.cells #[.slice A zs.length c, .int .i64 0, .int .u64 h0] 122)) w.heap.size A zs :=
    ⟨hz, ⟨0, h0, c, Nat.zero_le _, Blk.new _ _ _⟩, HA.out.rng, fun hn => by
      obtain ⟨b, o, e, hb, hc⟩ := HA.out.cells hn
      exact ⟨b, o, e, hb, fun i hi => ((Bel.alloc (Below.refl _ _) _).cell (p := ⟨b, o + i, none⟩) hb).trans (hc i hi)⟩⟩
  have hbel0 : Below w.heap.size w (w.alloc (.cells #[.slice A zs.length c, .int .i64 0, .int .u64 h0] 122)) := by repeat (with_reducible first | exact Below.refl _ _ | assumption | refine Bel.alloc ?_ _ | refine Bel.step (by assumption) ?_ | refine Below.drew ?_ | refine Bel.drewN ?_ _ | refine Below.setCell ?_ (by first | exact Nat.le_refl _ | omega | (simp; done) | (simp; omega)) _)
  obtain ⟨X, hX⟩ : ∃ X, X = w.heap.size := ⟨_, rfl⟩
  rw [← hX] at hD0 hbel0 ⊢
  have HX := Lib.hid hX
  clear hX
  go_loopw [6] (fun i wr => ∃ k : Nat, k ≤ zs.length ∧ i = .int .i64 k ∧ Dic wr X A zs ∧ Below X w wr) (fun i _ => zs.length - (intOf i).toNat)
  case atStart => exact ⟨0, Nat.zero_le _, rfl, hD0, hbel0⟩
  case round =>
    clear hD0 hbel0
    obtain ⟨k, hk, rfl, hD, hbel⟩ := hrel
    by_cases hlt : k < zs.length
    · obtain ⟨k0, h, c0, h1, hB⟩ := hD.blk
      obtain ⟨b, o, rfl, hbX, hcs⟩ := hD.cells (by omega)
      have hc := hcs k hlt
      have hr := hD.rng k hlt
      have hlX := hB.lt
      generalize zs.getD k 0 = z at hc hr
      obtain ⟨hr1, hr2⟩ := hr
      have p2 : wr.cell? ⟨X, 2, none⟩ = some (.int .u64 h) := by rw [hB.cell]; rfl
      have q2 := hB.frozen 2
      have f2 : IntKind.u64.wrap z = z := by simp [IntKind.wrap, IntKind.signed, IntKind.bits]; omega
      have HF2 := Lib.hid f2
      obtain ⟨m1, hm1⟩ : ∃ m, m = IntKind.u64.wrap (h * 1099511628211) := ⟨_, rfl⟩
      obtain ⟨m2, hm2⟩ : ∃ m, m = IntKind.u64.wrap (m1 + z) := ⟨_, rfl⟩
      obtain ⟨m3, hm3⟩ : ∃ m, m = IntKind.u64.wrap (m2 + 3) := ⟨_, rfl⟩
      have e1 : IntKind.u64.wrap (h * 1099511628211) = m1 := hm1.symm
      have e2 : IntKind.u64.wrap (m1 + z) = m2 := hm2.symm
      have e3 : IntKind.u64.wrap (m2 + 3) = m3 := hm3.symm
      clear hm1 hm2 hm3
      have hD2 : Dic (wr.drew.setCell ⟨X, 2, none⟩ (.int .u64 m3)) X (some ⟨b, o, none⟩) zs :=
        Dic.put (c := c0) (k := k0) (hh := m3) hD (Kp.setX _ _ (Kp.drew (Kp.refl _ _))) h1 (by have := (hB.drew).set_ 2 (.int .u64 m3); simpa using this)
      have hbel2 : Below X w (wr.drew.setCell ⟨X, 2, none⟩ (.int .u64 m3)) := (Below.drew hbel).setCell (p := ⟨X, 2, none⟩) (Nat.le_refl _) _
      have HD2 := Lib.hid hD2
      have HC := Lib.hid hcs
      clear hD2 hcs hB hD
      go_wp2
      set_option maxRecDepth 20000 in go_still_tail 15, (by kernel_rfl)
      go_wp2
      go_roundw
      case rel => exact ⟨k + 1, by omega, by go_num, HD2.out, hbel2⟩
      case measure => simp [intOf]; omega
    · obtain rfl : k = zs.length := by omega
      go_wp2
      go_ret
      exact ⟨X, rfl, by rw [HX.out]; exact Nat.le_refl _, hD, by rw [← HX.out]; exact hbel⟩
theorem below_c (X : Nat) (A : Option Addr) (zs : List Int) (n : Int) (h1 : 1 ≤ n) (h2 : n ≤ 1099511627776) (w : World) (hS : Dic w X A zs) :
    Calls Tryz.prog 41 #[.pointer (some ⟨X, 0, none⟩), .int .i64 n] w fun e w' => ∃ x : Int, e = .returned (.int .i64 x) ∧ 0 ≤ x ∧ x < n ∧ Dic w' X A zs ∧ Kp X w w' := by
  obtain ⟨k, h, c, hk, hB⟩ := hS.blk
  have hlen := hS.len
  have HS := Lib.hid hS
  clear hS
  have hlX := hB.lt
  have p2 : w.cell? ⟨X, 2, none⟩ = some (.int .u64 h) := by rw [hB.cell]; rfl
  have q2 := hB.frozen 2
  go_enter Tryz.func41, Tryz.ntmps41
  go_upto_region 2 with (fail)
  obtain ⟨m, hm⟩ : ∃ m, m = IntKind.u64.wrap (IntKind.u64.wrap (h * 6364136223846793005) + 1442695040888963407) := ⟨_, rfl⟩
  have hm0 : 0 ≤ m := by rw [hm]; simp [IntKind.wrap, IntKind.signed, IntKind.bits]; omega
  have hm1 : m < 18446744073709551616 := by rw [hm]; simp [IntKind.wrap, IntKind.signed, IntKind.bits]; omega
  rw [← hm]
  clear hm
  have hx : ∃ x : Int, bits BinOp.and IntKind.u64 (m / 8589934592) 16777215 = x ∧ 0 ≤ x ∧ x ≤ 16777215 := by
    obtain ⟨a, ha⟩ : ∃ a : Nat, m / 8589934592 = a := ⟨(m / 8589934592).toNat, by omega⟩
    have e := bits_and_u64_nat a 16777215 (by omega) (by omega)
    rw [ha]
    exact ⟨_, e, by omega, by have : a &&& 16777215 ≤ 16777215 := Nat.and_le_right; omega⟩
  obtain ⟨x, hx, hx0, hx1⟩ := hx
  have hx2 : wrap64 x = x := by unfold wrap64; omega
  have hB1 : Blk (w.setCell ⟨X, 2, none⟩ (.int .u64 m)) X 122 #[.slice A zs.length c, .int .i64 k, .int .u64 m] := by have := hB.set_ 2 (.int .u64 m); simpa using this
  have hk1 : Kp X w (w.setCell ⟨X, 2, none⟩ (.int .u64 m)) := Kp.setX _ _ (Kp.refl _ _)
  have HD1 := Lib.hid (Dic.put HS.out hk1 hk hB1)
  generalize w.setCell ⟨X, 2, none⟩ (.int .u64 m) = w1 at hB1 hk1 HD1 ⊢
  clear p2 q2 hB HS hlX
  have p0 : w1.cell? ⟨X, 0, none⟩ = some (.slice A zs.length c) := by rw [hB1.cell]; rfl
  have p1 : w1.cell? ⟨X, 1, none⟩ = some (.int .i64 k) := by rw [hB1.cell]; rfl
  have p2 : w1.cell? ⟨X, 2, none⟩ = some (.int .u64 m) := by rw [hB1.cell]; rfl
  have q1 := hB1.frozen 1
  have hlX := hB1.lt
  have hn0 : ¬ n = 0 := by omega
  have hfin : ∀ (y : Int) (W : World), 0 ≤ y → Dic W X A zs → Kp X w W → ∃ x : Int, Ending.returned (.int .i64 (y % n)) = .returned (.int .i64 x) ∧ 0 ≤ x ∧ x < n ∧ Dic W X A zs ∧ Kp X w W := by
    intro y W hy hd hk
    exact ⟨y % n, rfl, Int.emod_nonneg _ hn0, Int.emod_lt_of_pos _ (by omega), hd, hk⟩
  have HFin := Lib.hid hfin
  clear hfin
  go_wp2
  go_region_held3 (fun w' => w'.cell? ⟨X, 0, none⟩ = some (.slice A zs.length c) ∧ w'.cell? ⟨X, 1, none⟩ = some (.int .i64 k)) (simp [go_sem, *]) (fail)
  by_cases hlt : k < zs.length
  rotate_left
  · go_wp2
    go_ret
    exact HFin.out _ _ hx0 HD1.out.drew hk1.drew
  obtain ⟨b, o, rfl, hbX, hcs⟩ := HD1.out.cells (by omega)
  have hc := hcs k hlt
  have hr := HD1.out.rng k hlt
  generalize zs.getD k 0 = z at hc hr
  obtain ⟨hr1, hr2⟩ := hr
  have hl2 : k + 1 ≤ zs.length := by omega
  have HB1 := Lib.hid hB1
  have g1 : IntKind.i64.wrap z = z := wr64 (by omega) (by omega)
  have g2 : IntKind.i64.wrap (x + z) = x + z := wr64 (by omega) (by omega)
  have g3 : ((k + 1 : Nat) : Int) = (k : Int) + 1 := by omega
  have HG3 := Lib.hid g3
  clear hB1 hcs g3
  go_wp2
  go_region_held3 (fun w' => w'.cell? ⟨X, 0, none⟩ = some (.slice (some ⟨b, o, none⟩) zs.length c) ∧ w'.cell? ⟨X, 1, none⟩ = some (.int .i64 k) ∧ w'.cell? ⟨b, o + k, none⟩ = some (.int .u8 z)) (simp [go_sem, *]) (fail)
  go_upto_region 6 with (fail)
  have hB2 : Blk ((w1.setCell ⟨X, 1, none⟩ (.int .i64 ((k : Int) + 1))).drew.drew) X 122 #[.slice (some ⟨b, o, none⟩) zs.length c, .int .i64 ((k + 1 : Nat) : Int), .int .u64 m] := by
    rw [HG3.out]; have := (HB1.out.set_ 1 (.int .i64 ((k : Int) + 1))).drew.drew; simpa using this
  have hk2 : Kp X w1 ((w1.setCell ⟨X, 1, none⟩ (.int .i64 ((k : Int) + 1))).drew.drew) := (Kp.setX _ _ (Kp.refl _ _)).drew.drew
  have HD2 := Lib.hid (Dic.put HD1.out hk2 hl2 hB2)
  have hkk := Kp.trans hk1 hk2
  go_wp2
  go_ret
  exact HFin.out (x + z) _ (by omega) HD2.out hkk
end Go.Proofs.YtpmcgicopogbhaaGreat
