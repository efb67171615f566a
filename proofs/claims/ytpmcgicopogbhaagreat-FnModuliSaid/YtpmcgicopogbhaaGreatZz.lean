/- Shorter words for steps that are taken often. No conditions. -/
import Derived.Test.YtpmcgicopogbhaaGreatProg
import Derived.Test.YtpmcgicopogbhaaGreatBase
import Derived.Test.YtpmcgicopogbhaaGreatRw
import Derived.Test.YtpmcgicopogbhaaGreatL01
import Derived.Test.YtpmcgicopogbhaaGreatD00
import Derived.WalkKit
import Derived.Lib.Hide
namespace Go.Proofs.YtpmcgicopogbhaaGreat
open Go.RowKit
set_option linter.unusedVariables false
theorem zka {w w0 Wc w1 : World} {X g : Nat} (h : Hid (Kp X w w0)) (k : Kp g Wc w1) (h2 : Kp X w0 Wc := by repeat (with_reducible first | exact Kp.refl _ _ | refine Kp.alloc _ ?_ | refine Kp.drew ?_ | refine Kp.drewN _ ?_)) : Kp X w0 Wc := h2
theorem zk0 {w w0 Wc : World} {X : Nat} (h : Hid (Kp X w w0)) (h2 : Kp X w0 Wc := by repeat (with_reducible first | exact Kp.refl _ _ | refine Kp.alloc _ ?_ | refine Kp.drew ?_ | refine Kp.drewN _ ?_)) : Kp X w0 Wc := h2
theorem zba {B : Nat} {w w0 Wc w1 : World} (h : Hid (Below B w w0)) (k : Below Wc.heap.size Wc w1) (h2 : Below w0.heap.size w0 Wc := by repeat (with_reducible first | exact Below.refl _ _ | refine Bel.alloc ?_ _ | refine Below.drew ?_ | refine Bel.drewN ?_ _)) : Below w0.heap.size w0 Wc := h2
theorem zb0 {B : Nat} {w w0 Wc : World} (h : Hid (Below B w w0)) (h2 : Below w0.heap.size w0 Wc := by repeat (with_reducible first | exact Below.refl _ _ | refine Bel.alloc ?_ _ | refine Below.drew ?_ | refine Bel.drewN ?_ _)) : Below w0.heap.size w0 Wc := h2
theorem zb {X g : Nat} {w0 Wc w1 : World} {b : Nat} {t : TypeId} {cs : Array Value} (k : Kp X w0 Wc) (k2 : Kp g Wc w1) (h : Hid (Blk w0 b t cs)) (hn : b ≠ X := by first | omega | (simp; omega)) (h2 : b ≠ g := by first | omega | (simp; omega)) : Hid (Blk w1 b t cs) := Lib.hid (Blk.kp2 k k2 hn h2 h.out)
theorem zO {X g : Nat} {w0 Wc w1 : World} {B : Nat} {T : TypeId} {v : Value} {zs : List Int} (k : Kp X w0 Wc) (k2 : Kp g Wc w1) (h : Hid (Own w0 B T v zs)) (hn : X < B := by first | omega | (simp; omega)) (h2 : g < B := by first | omega | (simp; omega)) : Hid (Own w1 B T v zs) := Lib.hid (Own.kp2 k k2 hn h2 h.out)
theorem zP {X g : Nat} {w0 Wc w1 : World} {B : Nat} {T : TypeId} {v : Value} {zs : List (Int × Int)} (k : Kp X w0 Wc) (k2 : Kp g Wc w1) (h : Hid (OwnP w0 B T v zs)) (hn : X < B := by first | omega | (simp; omega)) (h2 : g < B := by first | omega | (simp; omega)) : Hid (OwnP w1 B T v zs) := Lib.hid (OwnP.kp2 k k2 hn h2 h.out)
theorem zo {X g : Nat} {w0 Wc w1 : World} {B b n c : Nat} {T : TypeId} {zs : List Int} (k : Kp X w0 Wc) (k2 : Kp g Wc w1) (h : Hid (Own w0 B T (.slice (some ⟨b, 0, none⟩) n c) zs)) (hn : b ≠ X := by first | omega | (simp; omega)) (h2 : b ≠ g := by first | omega | (simp; omega)) : Hid (Own w1 B T (.slice (some ⟨b, 0, none⟩) n c) zs) := Lib.hid (Own.kp3 k k2 hn h2 h.out)
theorem zp {X g : Nat} {w0 Wc w1 : World} {B b n c : Nat} {T : TypeId} {zs : List (Int × Int)} (k : Kp X w0 Wc) (k2 : Kp g Wc w1) (h : Hid (OwnP w0 B T (.slice (some ⟨b, 0, none⟩) n c) zs)) (hn : b ≠ X := by first | omega | (simp; omega)) (h2 : b ≠ g := by first | omega | (simp; omega)) : Hid (OwnP w1 B T (.slice (some ⟨b, 0, none⟩) n c) zs) := Lib.hid (OwnP.kp3 k k2 hn h2 h.out)
theorem zsr {w0 w : World} {X : Nat} {A : Option Addr} {zs : List Int} (h : Hid (Src w0 X A zs)) (k : Src w0 X A zs → Src w X A zs := by (intro h; repeat (with_reducible first | exact h | refine Src.alloc _ ?_ | refine Src.drew ?_ | refine Src.drewN _ ?_ | (refine Src.far _ ?_ ?_; (have := h.lt; first | omega | (simp; omega))) | (refine Src.setRow _ ?_ ?_; (have := h.lt; first | omega | (simp; omega)))))) : Src w X A zs := k h.out
theorem zt {X : Nat} {w w0 Wc w1 : World} (h : Hid (Kp X w w0)) (k : Kp X w0 Wc) (k2 : Kp X Wc w1) : Hid (Kp X w w1) := Lib.hid (Kp.trans h.out (Kp.trans k k2))
theorem yB {W0 W W' : World} {g : Nat} {t : TypeId} {cs : Array Value} (hb : Below W.heap.size W W') (hk : Below W0.heap.size W0 W) (h : Hid (Blk W0 g t cs)) : Hid (Blk W' g t cs) := Lib.hid (Blk.step hb (Blk.step hk h.out))
theorem yI {W0 W W' : World} {A : Option Addr} {zs : List Int} (hb : Below W.heap.size W W') (hk : Below W0.heap.size W0 W) (h : Hid (Ints W0 A zs)) : Hid (Ints W' A zs) := Lib.hid (Ints.step hb (Ints.step hk h.out))
theorem yR {W0 W W' : World} {A : Option Addr} {zs : List (Int × Int)} (hb : Below W.heap.size W W') (hk : Below W0.heap.size W0 W) (h : Hid (Prs W0 A zs)) : Hid (Prs W' A zs) := Lib.hid (Prs.step hb (Prs.step hk h.out))
theorem yY {W0 W W' : World} {A : Option Addr} {zs : List Int} (hb : Below W.heap.size W W') (hk : Below W0.heap.size W0 W) (h : Hid (Byts W0 A zs)) : Hid (Byts W' A zs) := Lib.hid (Byts.step hb (Byts.step hk h.out))
theorem zB {a W W' : World} {B : Nat} (hb : Below W.heap.size W W') (hk : Below a.heap.size a W) {w : World} (h : Hid (Below w.heap.size w a)) : Hid (Below w.heap.size w W') := Lib.hid (Bel.step hb (Bel.step hk h.out))
end Go.Proofs.YtpmcgicopogbhaaGreat
