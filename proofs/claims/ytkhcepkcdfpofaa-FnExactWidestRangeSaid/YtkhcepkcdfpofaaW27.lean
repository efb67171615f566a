/- What lies in memory while a statement on a new release runs; marks in releases. Conditions: as stated at each contract. -/
import Derived.Test.YtkhcepkcdfpofaaProg
import Derived.Test.YtkhcepkcdfpofaaBase
import Derived.Test.YtkhcepkcdfpofaaRw
import Derived.Test.YtkhcepkcdfpofaaRg
import Derived.Test.YtkhcepkcdfpofaaRq
import Derived.Test.YtkhcepkcdfpofaaL01
import Derived.Test.YtkhcepkcdfpofaaCp
import Derived.Test.YtkhcepkcdfpofaaCh
import Derived.Test.YtkhcepkcdfpofaaCm
import Derived.Test.YtkhcepkcdfpofaaL18
import Derived.Test.YtkhcepkcdfpofaaL18c
import Derived.Test.YtkhcepkcdfpofaaL23
import Derived.Test.YtkhcepkcdfpofaaL23b
import Derived.Test.YtkhcepkcdfpofaaW23
import Derived.WalkKit
import Derived.WalkSpells
import Derived.WalkLawsBesides
import Derived.Lib.Hide
import Derived.Deep.QuietTactic
import Derived.BigQuiet
import Derived.Deep.Draws
import Derived.Deep.RegionHeld3
import Derived.Deep.Cut
import Derived.Deep.WholeRow
namespace Go.Proofs.Ytkhcepkcdfpofaa
open Go.RowKit
set_option linter.unusedVariables false
theorem own_btw {w : World} {B : Nat} {T : TypeId} {v : Value} {zs : List Int} (h : Own w B T v zs) {b : Nat} (hb : b < B ∨ w.heap.size ≤ b) : v.ownBlock ≠ some b := by
  intro e
  have := h.lt b e
  omega
structure SR (w W : World) (T1 T2 T3 : TypeId) (R D : Re) (A A3 A5 : Option Addr) (c k3 k5 b4 b6 b7 g4 B3 B5 : Nat) (z3 z5 : List Int) : Prop where
  bel : Below w.heap.size w W
  arg : Blk W w.heap.size T1 #[.int .i64 R.ch.dg, .int .i64 R.ch.tn, .string R.ch.nm, .slice A R.ch.zs.length c, .int .i64 R.ch.wd, .int .i64 R.ch.lf, .int .i64 R.ch.rt, .int .i64 R.ad, .int .i64 R.at_, .int .i64 R.bd, .int .i64 R.bt, .int .i64 R.cd, .int .i64 R.ct, .int .i64 R.dd, .int .i64 R.dt, .int .i64 R.ey, .int .i64 R.bo]
  want : Blk W b4 T2 #[.int .i64 D.ch.dg, .int .i64 D.ch.tn, .string D.ch.nm, .slice A3 D.ch.zs.length k3, .int .i64 D.ch.wd, .int .i64 D.ch.lf, .int .i64 D.ch.rt, .int .i64 D.ad, .int .i64 D.at_, .int .i64 D.bd, .int .i64 D.bt, .int .i64 D.cd, .int .i64 D.ct, .int .i64 D.dd, .int .i64 D.dt, .int .i64 D.ey, .int .i64 D.bo]
  x0 : Blk W b6 T2 #[.int .i64 R.ch.dg, .int .i64 R.ch.tn, .string R.ch.nm, .slice (some ⟨g4, 0, none⟩) R.ch.zs.length R.ch.zs.length, .int .i64 R.ch.wd, .int .i64 R.ch.lf, .int .i64 R.ch.rt, .int .i64 R.ad, .int .i64 R.at_, .int .i64 R.bd, .int .i64 R.bt, .int .i64 R.cd, .int .i64 R.ct, .int .i64 R.dd, .int .i64 R.dt, .int .i64 R.ey, .int .i64 R.bo]
  got : Blk W b7 T2 #[.int .i64 D.ch.dg, .int .i64 D.ch.tn, .string D.ch.nm, .slice A5 D.ch.zs.length k5, .int .i64 D.ch.wd, .int .i64 D.ch.lf, .int .i64 D.ch.rt, .int .i64 D.ad, .int .i64 D.at_, .int .i64 D.bd, .int .i64 D.bt, .int .i64 D.cd, .int .i64 D.ct, .int .i64 D.dd, .int .i64 D.dt, .int .i64 D.ey, .int .i64 D.bo]
  own3 : Own W B3 T3 (.slice A3 D.ch.zs.length k3) z3
  own5 : Own W B5 T3 (.slice A5 D.ch.zs.length k5) z5
  ints : Ints w A R.ch.zs
theorem SR.step {w W W' : World} {T1 T2 T3 : TypeId} {R D : Re} {A A3 A5 : Option Addr} {c k3 k5 b4 b6 b7 g4 B3 B5 : Nat} {z3 z5 : List Int} (hb : Below W.heap.size W W') (h : SR w W T1 T2 T3 R D A A3 A5 c k3 k5 b4 b6 b7 g4 B3 B5 z3 z5) : SR w W' T1 T2 T3 R D A A3 A5 c k3 k5 b4 b6 b7 g4 B3 B5 z3 z5 :=
  ⟨Bel.step hb h.bel, Blk.step hb h.arg, Blk.step hb h.want, Blk.step hb h.x0, Blk.step hb h.got, Own.step hb h.own3, Own.step hb h.own5, h.ints⟩
theorem SR.grown {w W W' : World} {T1 T2 T3 : TypeId} {R D : Re} {A A3 A5 : Option Addr} {c k3 k5 b4 b6 b7 g4 B3 B5 : Nat} {z3 z5 z5' : List Int} {row : Option Nat} (hg : W.grownBy W' row) (hr : ∀ k, row = some k → w.heap.size < k) (n4 : row ≠ some b4) (n6 : row ≠ some b6) (n7 : row ≠ some b7)
    (o3 : (Value.slice A3 D.ch.zs.length k3).ownBlock = none ∨ (Value.slice A3 D.ch.zs.length k3).ownBlock ≠ row) (h5 : Own W' B5 T3 (.slice A5 D.ch.zs.length k5) z5') (h : SR w W T1 T2 T3 R D A A3 A5 c k3 k5 b4 b6 b7 g4 B3 B5 z3 z5) : SR w W' T1 T2 T3 R D A A3 A5 c k3 k5 b4 b6 b7 g4 B3 B5 z3 z5' :=
  ⟨Bel.grown h.bel hg (fun k hk => Nat.le_of_lt (hr k hk)), Blk.grown h.arg hg (fun e => Nat.lt_irrefl _ (hr _ e.symm)), Blk.grown h.want hg (fun e => n4 e.symm), Blk.grown h.x0 hg (fun e => n6 e.symm), Blk.grown h.got hg (fun e => n7 e.symm), Own.kept h.own3 hg o3, h5, h.ints⟩
set_option maxRecDepth 50000 in
set_option maxHeartbeats 2000000 in
theorem markRelease_c (R : Re) (A : Option Addr) (n c : Nat) (L : List Int) (B : Nat) (k0 : Int) (h0 : 0 ≤ k0) (h1 : k0 ≤ 100000000) (hx : L.length ≤ 10000000) (w : World) (hO : Own w B 2 (.slice A n c) L) :
    Calls Try.prog 33 #[.agg #[.int .i64 R.ch.dg, .int .i64 R.ch.tn, .string R.ch.nm, .slice A n c, .int .i64 R.ch.wd, .int .i64 R.ch.lf, .int .i64 R.ch.rt, .int .i64 R.ad, .int .i64 R.at_, .int .i64 R.bd, .int .i64 R.bt, .int .i64 R.cd, .int .i64 R.ct, .int .i64 R.dd, .int .i64 R.dt, .int .i64 R.ey, .int .i64 R.bo], .int .i64 k0] w fun e w' => e = .returned (.int .i64 (k0 + L.length)) ∧ Own w' B 2 (.slice A n c) (marks L.length k0) ∧ w.grownBy w' (Value.slice A n c).ownBlock := by
  go_enter Try.func33, Try.ntmps33
  go_wp2_with fail
  refine (markChart_c R.ch _ _ _ _ h0 h1 hx _ (Own.alloc _ hO)).mono ?_; rintro e w1 ⟨rfl, hO1, hg1⟩
  go_wp2
  go_ret
  exact ⟨rfl, hO1, grown_alloc hg1⟩
set_option maxRecDepth 50000 in
set_option maxHeartbeats 2000000 in
theorem heldRelease_c (R : Re) (A : Option Addr) (m c : Nat) (n B : Nat) (k0 : Int) (h0 : 0 ≤ k0) (h1 : k0 ≤ 100000000) (hx : n ≤ 10000000) (w : World) (hO : Own w B 2 (.slice A m c) (marks n k0)) :
    Calls Try.prog 34 #[.agg #[.int .i64 R.ch.dg, .int .i64 R.ch.tn, .string R.ch.nm, .slice A m c, .int .i64 R.ch.wd, .int .i64 R.ch.lf, .int .i64 R.ch.rt, .int .i64 R.ad, .int .i64 R.at_, .int .i64 R.bd, .int .i64 R.bt, .int .i64 R.cd, .int .i64 R.ct, .int .i64 R.dd, .int .i64 R.dt, .int .i64 R.ey, .int .i64 R.bo], .int .i64 k0] w fun e w' => e = .returned (.int .i64 (k0 + n)) ∧ Below w.heap.size w w' := by
  have hk : ¬ k0 + (n : Int) < 0 := by omega
  go_enter Try.func34, Try.ntmps34
  go_wp2_with fail
  refine (heldChart_c R.ch _ n _ _ h0 h1 hx _ (Own.alloc _ hO)).mono ?_; rintro e w1 ⟨rfl, hb1⟩
  go_wp2
  go_ret
  exact ⟨rfl, by repeat (with_reducible first | exact Below.refl _ _ | assumption | refine Bel.alloc ?_ _ | refine Bel.step (by assumption) ?_ | refine Below.drew ?_ | refine Bel.drewN ?_ _ | refine Below.setCell ?_ (by first | exact Nat.le_refl _ | omega | (simp; done) | (simp; omega)) _)⟩
end Go.Proofs.Ytkhcepkcdfpofaa
