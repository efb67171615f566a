/- Chapter 26: the best moduli, of the program. Conditions: as stated at each contract. -/
import Derived.Test.YtkhcepkcdfpofaaProg
import Derived.Test.YtkhcepkcdfpofaaBase
import Derived.Test.YtkhcepkcdfpofaaRw
import Derived.Test.YtkhcepkcdfpofaaRg
import Derived.Test.YtkhcepkcdfpofaaL01
import Derived.Test.YtkhcepkcdfpofaaCp
import Derived.Test.YtkhcepkcdfpofaaCh
import Derived.Test.YtkhcepkcdfpofaaL18
import Derived.Test.YtkhcepkcdfpofaaL23
import Derived.Test.YtkhcepkcdfpofaaL23b
import Derived.Test.YtkhcepkcdfpofaaL03
import Derived.Test.YtkhcepkcdfpofaaL04
import Derived.Test.YtkhcepkcdfpofaaL23d
import Derived.Test.YtkhcepkcdfpofaaL23e
import Derived.Test.YtkhcepkcdfpofaaL23f
import Derived.Test.YtkhcepkcdfpofaaL24
import Derived.Test.YtkhcepkcdfpofaaL24b
import Derived.Test.YtkhcepkcdfpofaaL24c
import Derived.Test.YtkhcepkcdfpofaaL24d
import Derived.Test.YtkhcepkcdfpofaaL24f
import Derived.Test.YtkhcepkcdfpofaaL24g
import Derived.Test.YtkhcepkcdfpofaaL24r
import Derived.Test.YtkhcepkcdfpofaaL23g
import Derived.Test.YtkhcepkcdfpofaaL23h
import Derived.Test.YtkhcepkcdfpofaaL26a
import Derived.Test.YtkhcepkcdfpofaaL26b
import Derived.Test.YtkhcepkcdfpofaaL26c
import Derived.Test.YtkhcepkcdfpofaaL26h
import Derived.Test.YtkhcepkcdfpofaaL26i
import Derived.Test.YtkhcepkcdfpofaaL26j
import Derived.Test.YtkhcepkcdfpofaaL26k
import Derived.Test.YtkhcepkcdfpofaaL26m
import Derived.WalkKit
import Derived.WalkSpells
import Derived.WalkLawsBesides
import Derived.Lib.Hide
import Derived.Deep.QuietTactic
import Derived.BigQuiet
import Derived.Deep.Draws
import Derived.Deep.RegionHeld3
namespace Go.Proofs.Ytkhcepkcdfpofaa
open Go.RowKit
set_option linter.unusedVariables false
set_option linter.unusedSimpArgs false
theorem bmClosure_c (z : Int) (w : World) : Calls Try.prog 84 #[.int .i64 z] w fun e w' => e = .returned (.bool (!(inB z 100 20000))) ∧ w' = w := by
  go_enter Try.func84, Try.ntmps84
  go_wp2_with fail
  go_at_call 82; refine (within_c _ _ _ _).mono ?_; rintro e w' ⟨rfl, rfl⟩
  cases hb : inB z 100 20000
  · go_wp2
    go_ret
    exact ⟨by rw [hb]; rfl, rfl⟩
  · go_wp2
    go_ret
    exact ⟨by rw [hb]; rfl, rfl⟩
theorem msOk_no {ms : List Int} {k : Nat} (hk : k < ms.length) (h : inB ms[k] 100 20000 = false) : msOk ms = false := by
  cases hm : msOk ms with
  | false => rfl
  | true =>
    have := List.all_eq_true.1 hm _ (List.getElem_mem hk)
    rw [h] at this; cases this
set_option maxHeartbeats 1000000 in
theorem bmIndex_c (M : Option Addr) (m : Nat) (ms : List Int) (hx : ms.length ≤ 1048576) (w : World) (hM : Ints w M ms) :
    Calls Try.prog 134 #[.slice M ms.length m, .func (.func 84) #[] #[]] w fun e w' => (∃ r : Int, e = .returned (.int .i64 r) ∧ decide (r ≥ 0) = !(msOk ms)) ∧ w' = w := by
  have HM := Lib.hid hM
  clear hM
  go_enter Try.func134, Try.ntmps134
  go_wp2
  go_loopw [5, 8] (fun _ i wr => ∃ k : Nat, k ≤ ms.length ∧ i = .int .i64 k ∧ Hid (msOk (ms.take k) = true) ∧ wr = w) (fun _ i _ => ms.length - (intOf i).toNat)
  case atStart => exact ⟨0, Nat.zero_le _, rfl, Lib.hid rfl, rfl⟩
  case round =>
    obtain ⟨k, hk, rfl, HK, rfl⟩ := hrel
    by_cases hlt : k < ms.length
    · obtain ⟨b, o, e, hb, c0⟩ := HM.out.at_ k hlt
      have HS := Lib.hid (msOk_step hlt)
      have HN := Lib.hid (fun h => msOk_no hlt h)
      subst e
      generalize ms[k] = z at *
      cases hz : inB z 100 20000
      · have HT := Lib.hid (HN.out hz)
        go_wp2_with fail
        refine (bmClosure_c z _).mono ?_; rintro e w1 ⟨rfl, rfl⟩
        rw [hz]
        clear hz
        go_wp2
        go_ret
        exact ⟨⟨k, rfl, by rw [HT.out]; simp⟩, rfl⟩
      · have HT := Lib.hid (show msOk (ms.take (k + 1)) = true by rw [HS.out, HK.out, hz]; rfl)
        go_wp2_with fail
        refine (bmClosure_c z _).mono ?_; rintro e w1 ⟨rfl, rfl⟩
        rw [hz]
        clear hz
        go_wp2
        go_roundw
        case rel => exact ⟨k + 1, by omega, by go_num, HT, by first | trivial | rfl⟩
        case measure => simp [intOf]; omega
    · obtain rfl : k = ms.length := by omega
      have HT := Lib.hid (show msOk ms = true by have := HK.out; rw [List.take_length] at this; exact this)
      go_wp2
      go_ret
      exact ⟨⟨-1, rfl, by rw [HT.out]; rfl⟩, rfl⟩
theorem bmContains_c (M : Option Addr) (m : Nat) (ms : List Int) (hx : ms.length ≤ 1048576) (w : World) (hM : Ints w M ms) :
    Calls Try.prog 83 #[.slice M ms.length m, .func (.func 84) #[] #[]] w fun e w' => e = .returned (.bool (!(msOk ms))) ∧ w' = w := by
  go_enter Try.func83, Try.ntmps83
  go_wp2_with fail
  go_at_call 134; refine (bmIndex_c M m ms hx _ hM).mono ?_; rintro e w1 ⟨⟨r, rfl, hr⟩, rfl⟩
  have HR := Lib.hid hr
  clear hr
  go_wp2
  go_ret
  exact ⟨by rw [← HR.out]; rfl, rfl⟩
end Go.Proofs.Ytkhcepkcdfpofaa
