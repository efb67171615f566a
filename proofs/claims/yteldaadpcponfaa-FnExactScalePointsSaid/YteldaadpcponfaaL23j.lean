/- Marks in rows of pairs. Conditions: as stated at each contract. -/
import Derived.Test.YteldaadpcponfaaProg
import Derived.Test.YteldaadpcponfaaBase
import Derived.Test.YteldaadpcponfaaRw
import Derived.Test.YteldaadpcponfaaL01
import Derived.Test.YteldaadpcponfaaCp
import Derived.Test.YteldaadpcponfaaCh
import Derived.WalkKit
import Derived.WalkSpells
import Derived.WalkLawsBesides
import Derived.Lib.Hide
import Derived.Deep.QuietTactic
import Derived.BigQuiet
import Derived.Deep.Draws
import Derived.Deep.RegionHeld3
namespace Go.Proofs.Yteldaadpcponfaa
open Go.RowKit
set_option linter.unusedVariables false
/-- The pairs that a mark from k0 on writes. -/
def pmarks (n : Nat) (k0 : Int) : List (Int × Int) := (List.range n).map fun (i : Nat) => (k0 + 2 * (i : Int), k0 + 2 * (i : Int) + 1)
theorem pmarks_len (n : Nat) (k0 : Int) : (pmarks n k0).length = n := by simp [pmarks]
theorem pmarks_succ (n : Nat) (k0 : Int) : pmarks (n + 1) k0 = pmarks n k0 ++ [(k0 + 2 * (n : Int), k0 + 2 * (n : Int) + 1)] := by simp [pmarks, List.range_succ]
theorem pmarks_at (n : Nat) (k0 : Int) (i : Nat) (h : i < n) : (pmarks n k0)[i]'(by rw [pmarks_len]; exact h) = (k0 + 2 * (i : Int), k0 + 2 * (i : Int) + 1) := by simp [pmarks]
theorem markFigureS_c (v : Value) (L : List (Int × Int)) (B : Nat) (k0 : Int) (h0 : 0 ≤ k0) (h1 : k0 ≤ 100000000) (hx : L.length ≤ 10000000) (w : World) (hO : OwnP w B 34 v L) :
    Calls Try.prog 44 #[v, .int .i64 k0] w fun e w' => e = .returned (.int .i64 (k0 + 2 * (L.length : Int))) ∧ OwnP w' B 34 v (pmarks L.length k0) ∧ w.grownBy w' v.ownBlock := by
  obtain ⟨A, c, rfl, hcc, hcm, hI, hF⟩ := hO.form
  by_cases hz : L.length = 0
  · have e : L = [] := List.eq_nil_of_length_eq_zero hz
    subst e
    have HO := Lib.hid hO
    clear hO hF hI
    go_enter Try.func44, Try.ntmps44
    go_wp2
    go_loop [1, 5] (fun kk i => i = .int .i64 0 ∧ kk = .int .i64 k0) (fun _ _ => 0)
    case atStart => exact ⟨rfl, rfl⟩
    case round =>
      obtain ⟨rfl, rfl⟩ := hrel
      go_wp2
      go_ret
      exact ⟨ret_int (by simp), by simpa [pmarks] using HO.out, World.grownBy.refl w _⟩
  · obtain ⟨g, cur, rfl, hBg, hB, hs, ht⟩ := hF (by omega)
    generalize hn : L.length = n at *
    clear hI hF hz ht hO
    go_enter Try.func44, Try.ntmps44
    go_wp2
    go_loopw [1, 5] (fun kk i wr => ∃ (k : Nat) (cu : Array Value), k ≤ n ∧ i = .int .i64 k ∧ kk = .int .i64 (k0 + 2 * (k : Int)) ∧ Blk wr g 34 cu ∧ cu.size = c * 2 ∧ Hid (cu.toList.take (k * 2) = pcells (pmarks k k0)) ∧ w.grownBy wr (some g)) (fun _ i _ => n - (intOf i).toNat)
    case atStart => exact ⟨0, cur, Nat.zero_le _, rfl, by simp, hB, hs, by simp [pmarks, pcells, Hid], World.grownBy.refl w _⟩
    case round =>
      obtain ⟨k, cu, hk, rfl, rfl, hBk, hsz, hT, hg⟩ := hrel
      by_cases hlt : k < n
      · have hlt2 : k * 2 < cu.size := by omega
        have hlt3 : k * 2 + 1 < cu.size := by omega
        have hBc : wr.cell? ⟨g, k * 2, none⟩ = some cu[k * 2] := by rw [hBk.cell, Array.getElem?_eq_getElem hlt2]
        have hBc1 : wr.cell? ⟨g, k * 2 + 1, none⟩ = some cu[k * 2 + 1] := by rw [hBk.cell, Array.getElem?_eq_getElem hlt3]
        have hBf := hBk.frozen (k * 2)
        have hBf1 := hBk.frozen (k * 2 + 1)
        have HS := Lib.hid ((hBk.set_ (k * 2) (.int .i64 (k0 + 2 * (k : Int)))).set_ (k * 2 + 1) (.int .i64 (k0 + 2 * (k : Int) + 1)))
        have hsz2 := Lib.hid (show ((cu.setIfInBounds (k * 2) (.int .i64 (k0 + 2 * (k : Int)))).setIfInBounds (k * 2 + 1) (.int .i64 (k0 + 2 * (k : Int) + 1))).size = c * 2 by simpa using hsz)
        have hT2 := Lib.hid (show ((cu.setIfInBounds (k * 2) (.int .i64 (k0 + 2 * (k : Int)))).setIfInBounds (k * 2 + 1) (.int .i64 (k0 + 2 * (k : Int) + 1))).toList.take ((k + 1) * 2) = pcells (pmarks (k + 1) k0) by
          rw [show (k + 1) * 2 = (k * 2 + 1) + 1 by omega, set_take _ _ _ (by simpa using hlt3), set_take _ _ _ hlt2, hT.out, pmarks_succ, pcells_app, List.append_assoc]; rfl)
        clear hBk hsz
        go_wp2
        go_roundw
        case rel => exact ⟨k + 1, _, by omega, by go_num, by go_num, HS.out, hsz2.out, hT2, grown_set (grown_set hg _) _⟩
        case measure => simp [intOf]; omega
      · have e : k = n := by omega
        subst e
        have HO : Hid (OwnP wr B 34 (.slice (some ⟨g, 0, none⟩) k c) (pmarks k k0)) := by
          refine ⟨by simp [pcells_len, pmarks_len], .inr ⟨g, c, cu, by rw [pmarks_len], hBg, hBk, by rw [pmarks_len]; omega, hcm, by omega, ?_⟩⟩
          rw [pmarks_len]; exact hT.out
        clear hBk hsz hT
        go_wp2
        go_ret
        exact ⟨rfl, HO.out, hg⟩
theorem markPointS_c (v : Value) (L : List (Int × Int)) (B : Nat) (k0 : Int) (h0 : 0 ≤ k0) (h1 : k0 ≤ 100000000) (hx : L.length ≤ 10000000) (w : World) (hO : OwnP w B 94 v L) :
    Calls Try.prog 45 #[v, .int .i64 k0] w fun e w' => e = .returned (.int .i64 (k0 + 2 * (L.length : Int))) ∧ OwnP w' B 94 v (pmarks L.length k0) ∧ w.grownBy w' v.ownBlock := by
  obtain ⟨A, c, rfl, hcc, hcm, hI, hF⟩ := hO.form
  by_cases hz : L.length = 0
  · have e : L = [] := List.eq_nil_of_length_eq_zero hz
    subst e
    have HO := Lib.hid hO
    clear hO hF hI
    go_enter Try.func45, Try.ntmps45
    go_wp2
    go_loop [1, 5] (fun kk i => i = .int .i64 0 ∧ kk = .int .i64 k0) (fun _ _ => 0)
    case atStart => exact ⟨rfl, rfl⟩
    case round =>
      obtain ⟨rfl, rfl⟩ := hrel
      go_wp2
      go_ret
      exact ⟨ret_int (by simp), by simpa [pmarks] using HO.out, World.grownBy.refl w _⟩
  · obtain ⟨g, cur, rfl, hBg, hB, hs, ht⟩ := hF (by omega)
    generalize hn : L.length = n at *
    clear hI hF hz ht hO
    go_enter Try.func45, Try.ntmps45
    go_wp2
    go_loopw [1, 5] (fun kk i wr => ∃ (k : Nat) (cu : Array Value), k ≤ n ∧ i = .int .i64 k ∧ kk = .int .i64 (k0 + 2 * (k : Int)) ∧ Blk wr g 94 cu ∧ cu.size = c * 2 ∧ Hid (cu.toList.take (k * 2) = pcells (pmarks k k0)) ∧ w.grownBy wr (some g)) (fun _ i _ => n - (intOf i).toNat)
    case atStart => exact ⟨0, cur, Nat.zero_le _, rfl, by simp, hB, hs, by simp [pmarks, pcells, Hid], World.grownBy.refl w _⟩
    case round =>
      obtain ⟨k, cu, hk, rfl, rfl, hBk, hsz, hT, hg⟩ := hrel
      by_cases hlt : k < n
      · have hlt2 : k * 2 < cu.size := by omega
        have hlt3 : k * 2 + 1 < cu.size := by omega
        have hBc : wr.cell? ⟨g, k * 2, none⟩ = some cu[k * 2] := by rw [hBk.cell, Array.getElem?_eq_getElem hlt2]
        have hBc1 : wr.cell? ⟨g, k * 2 + 1, none⟩ = some cu[k * 2 + 1] := by rw [hBk.cell, Array.getElem?_eq_getElem hlt3]
        have hBf := hBk.frozen (k * 2)
        have hBf1 := hBk.frozen (k * 2 + 1)
        have HS := Lib.hid ((hBk.set_ (k * 2) (.int .i64 (k0 + 2 * (k : Int)))).set_ (k * 2 + 1) (.int .i64 (k0 + 2 * (k : Int) + 1)))
        have hsz2 := Lib.hid (show ((cu.setIfInBounds (k * 2) (.int .i64 (k0 + 2 * (k : Int)))).setIfInBounds (k * 2 + 1) (.int .i64 (k0 + 2 * (k : Int) + 1))).size = c * 2 by simpa using hsz)
        have hT2 := Lib.hid (show ((cu.setIfInBounds (k * 2) (.int .i64 (k0 + 2 * (k : Int)))).setIfInBounds (k * 2 + 1) (.int .i64 (k0 + 2 * (k : Int) + 1))).toList.take ((k + 1) * 2) = pcells (pmarks (k + 1) k0) by
          rw [show (k + 1) * 2 = (k * 2 + 1) + 1 by omega, set_take _ _ _ (by simpa using hlt3), set_take _ _ _ hlt2, hT.out, pmarks_succ, pcells_app, List.append_assoc]; rfl)
        clear hBk hsz
        go_wp2
        go_roundw
        case rel => exact ⟨k + 1, _, by omega, by go_num, by go_num, HS.out, hsz2.out, hT2, grown_set (grown_set hg _) _⟩
        case measure => simp [intOf]; omega
      · have e : k = n := by omega
        subst e
        have HO : Hid (OwnP wr B 94 (.slice (some ⟨g, 0, none⟩) k c) (pmarks k k0)) := by
          refine ⟨by simp [pcells_len, pmarks_len], .inr ⟨g, c, cu, by rw [pmarks_len], hBg, hBk, by rw [pmarks_len]; omega, hcm, by omega, ?_⟩⟩
          rw [pmarks_len]; exact hT.out
        clear hBk hsz hT
        go_wp2
        go_ret
        exact ⟨rfl, HO.out, hg⟩
theorem heldPointS_c (v : Value) (n B : Nat) (k0 : Int) (h0 : 0 ≤ k0) (h1 : k0 ≤ 100000000) (hx : n ≤ 10000000) (w : World) (hO : OwnP w B 94 v (pmarks n k0)) :
    Calls Try.prog 46 #[v, .int .i64 k0] w fun e w' => e = .returned (.int .i64 (k0 + 2 * (n : Int))) ∧ w = w' := by
  obtain ⟨A, c, rfl, hcc, hcm, hI, hF⟩ := hO.form
  have hml := pmarks_len n k0
  rw [hml] at hcc
  have HI := Lib.hid hI
  clear hO hF hI
  rw [hml]
  clear hml
  go_enter Try.func46, Try.ntmps46
  go_wp2
  go_loop [1, 5] (fun kk i => ∃ k : Nat, k ≤ n ∧ i = .int .i64 k ∧ kk = .int .i64 (k0 + 2 * (k : Int))) (fun _ i => n - (intOf i).toNat)
  case atStart => exact ⟨0, Nat.zero_le _, rfl, by simp⟩
  case round =>
    obtain ⟨k, hk, rfl, rfl⟩ := hrel
    by_cases hlt : k < n
    · obtain ⟨b, o, rfl, hbb, hc, hd⟩ := HI.out.at_ k (by rw [pmarks_len]; exact hlt)
      rw [pmarks_at _ _ _ hlt] at hc hd
      have b1 : ((k0 + 2 * (k : Int)) != (k0 + 2 * (k : Int))) = false := by simp
      have b2 : ((k0 + 2 * (k : Int) + 1) != (k0 + 2 * (k : Int) + 1)) = false := by simp
      go_wp2
      go_round
      case rel => exact ⟨k + 1, by omega, by go_num, by go_num⟩
      case measure => simp [intOf]; omega
    · have e : k = n := by omega
      subst e
      go_wp2
      go_ret
      exact ⟨rfl, rfl⟩
end Go.Proofs.Yteldaadpcponfaa
