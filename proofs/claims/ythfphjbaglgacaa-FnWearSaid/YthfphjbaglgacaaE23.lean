/- The statements' own comparisons of lists. Conditions: as stated at each contract. -/
import Derived.Test.YthfphjbaglgacaaProg
import Derived.Test.YthfphjbaglgacaaBase
import Derived.Test.YthfphjbaglgacaaRw
import Derived.Test.YthfphjbaglgacaaRg
import Derived.Test.YthfphjbaglgacaaL01
import Derived.Test.YthfphjbaglgacaaCp
import Derived.Test.YthfphjbaglgacaaD00
import Derived.WalkKit
import Derived.WalkSpells
import Derived.WalkLawsBesides
import Derived.Lib.Hide
import Derived.Deep.QuietTactic
import Derived.BigQuiet
import Derived.Deep.Draws
import Derived.Deep.RegionHeld3
import Derived.Deep.Cut
namespace Go.Proofs.Ythfphjbaglgacaa
open Go.RowKit
set_option linter.unusedVariables false
set_option linter.unusedSimpArgs false
theorem Prs.cells2 {w : World} {g : Nat} {zs : List (Int × Int)} (h : Prs w (some ⟨g, 0, none⟩) zs) (k : Nat) (hk : k < zs.length) : w.cell? ⟨g, k * 2, none⟩ = some (.int .i64 zs[k].1) ∧ w.cell? ⟨g, k * 2 + 1, none⟩ = some (.int .i64 zs[k].2) := by
  obtain ⟨b, o, e, _, h0, h1⟩ := h.at_ k hk
  injection e with e
  injection e with e1 e2
  subst e1 e2
  rw [Nat.zero_add] at h0 h1
  exact ⟨h0, h1⟩
theorem Prs.kpB {w w' : World} {b g : Nat} {zs : List (Int × Int)} (h : Prs w (some ⟨b, 0, none⟩) zs) (k : Kp g w w') (hn : b ≠ g) : Prs w' (some ⟨b, 0, none⟩) zs := fun h0 => by
  obtain ⟨b', o, e, hlt, hc⟩ := h h0
  injection e with e
  injection e with e1 e2
  subst e1 e2
  exact ⟨b, 0, rfl, Nat.lt_of_lt_of_le hlt k.size, fun i hi => ⟨(World.cell?_of_block (k.block b hlt (by simpa using hn))).trans (hc i hi).1, (World.cell?_of_block (k.block b hlt (by simpa using hn))).trans (hc i hi).2⟩⟩
theorem Byts.alloc {w : World} {A : Option Addr} {zs : List Int} (o : Obj) (h : Byts w A zs) : Byts (w.alloc o) A zs := Byts.step (Bel.alloc (Below.refl _ _) o) h
theorem likePoints_c (A B : Option Addr) (c d : Nat) (zs : List (Int × Int)) (hx : zs.length ≤ 1048576) (w : World) (hA : Prs w A zs) (hB : Prs w B zs) :
    Calls Try.prog 60 #[.slice A zs.length c, .slice B zs.length d] w fun e w' => e = .returned (.bool true) ∧ Below w.heap.size w w' := by
  go_enter Try.func60, Try.ntmps60
  go_wp2
  go_loopw [5] (fun i wr => ∃ k : Nat, k ≤ zs.length ∧ i = .int .i64 k ∧ ∃ n, wr = w.drewN n) (fun i _ => zs.length - (intOf i).toNat)
  case atStart => exact ⟨0, Nat.zero_le _, rfl, 0, rfl⟩
  case round =>
    obtain ⟨k, hk, rfl, n, rfl⟩ := hrel
    by_cases hlt : k < zs.length
    · obtain ⟨b, o, rfl, hbb, hc0, hc1⟩ := hA.at_ k hlt
      obtain ⟨b', o', rfl, hbb', hd0, hd1⟩ := hB.at_ k hlt
      go_wp2
      go_quiet (fail)
      go_wp2
      go_roundw
      case rel => exact ⟨k + 1, by omega, by go_num, _, rfl⟩
      case measure => simp [intOf]; omega
    · have e : k = zs.length := by omega
      subst e
      go_wp2
      go_ret
      exact ⟨rfl, Bel.drewN (Below.refl _ _) n⟩
end Go.Proofs.Ythfphjbaglgacaa
