/- The statements' own comparisons of lists. Conditions: as stated at each contract. -/
import Derived.Test.YtpmcgicopogbhaaGreatProg
import Derived.Test.YtpmcgicopogbhaaGreatBase
import Derived.Test.YtpmcgicopogbhaaGreatRw
import Derived.Test.YtpmcgicopogbhaaGreatRg
import Derived.Test.YtpmcgicopogbhaaGreatL01
import Derived.Test.YtpmcgicopogbhaaGreatCp
import Derived.Test.YtpmcgicopogbhaaGreatD00
import Derived.WalkKit
import Derived.WalkSpells
import Derived.WalkLawsBesides
import Derived.Lib.Hide
import Derived.Deep.QuietTactic
import Derived.BigQuiet
import Derived.Deep.Draws
import Derived.Deep.RegionHeld3
import Derived.Deep.Cut
namespace Go.Proofs.YtpmcgicopogbhaaGreat
open Go.RowKit
set_option linter.unusedVariables false
set_option linter.unusedSimpArgs false
theorem Prs.cells2 {w : World} {g : Nat} {zs : List (Int × Int)} (h : Prs w (some ⟨g, 0, none⟩) zs) (k : Nat) (hk : k < zs.length) : w.cell? ⟨g, k * 2, none⟩ = some (.int .i64 zs[k].1) ∧ w.cell? ⟨g, k * 2 + 1, none⟩ = some (.int .i64 zs[k].2) := by
  obtain ⟨b, o, e, _, h0, h1⟩ := h.at_ k hk
  injection e with e
  injection e with e1 e2
  subst e1 e2
  rw [Nat.zero_add] at h0 h1
  exact ⟨h0, h1⟩
theorem Prs.kpB {w w' : World} {b g : Nat} {zs : List (Int × Int)} (h : Prs w (some ⟨b, 0, none⟩) zs) (k : Kp g w w') (hn : b ≠ g) : Prs w' (some ⟨b, 0, none⟩) zs := fun h0 => by
  obtain ⟨b', o, e, hlt, hc⟩ := h h0
  injection e with e
  injection e with e1 e2
  subst e1 e2
  exact ⟨b, 0, rfl, Nat.lt_of_lt_of_le hlt k.size, fun i hi => ⟨(World.cell?_of_block (k.block b hlt (by simpa using hn))).trans (hc i hi).1, (World.cell?_of_block (k.block b hlt (by simpa using hn))).trans (hc i hi).2⟩⟩
theorem Byts.alloc {w : World} {A : Option Addr} {zs : List Int} (o : Obj) (h : Byts w A zs) : Byts (w.alloc o) A zs := Byts.step (Bel.alloc (Below.refl _ _) o) h
end Go.Proofs.YtpmcgicopogbhaaGreat
