/- Chapter 23: what the statement FnScalePoints says, plainly. No conditions. -/
import Derived.Test.YthfphjbaglgacaaProg
import Derived.Test.YthfphjbaglgacaaBase
import Derived.Test.YthfphjbaglgacaaRw
import Derived.Test.YthfphjbaglgacaaL01
import Derived.Test.YthfphjbaglgacaaCp
import Derived.Test.YthfphjbaglgacaaL18
import Derived.Test.YthfphjbaglgacaaL23
import Derived.Test.YthfphjbaglgacaaL03
import Derived.Test.YthfphjbaglgacaaL04
import Derived.Test.YthfphjbaglgacaaL23d
import Derived.Test.YthfphjbaglgacaaL23e
import Derived.Test.YthfphjbaglgacaaL23f
import Derived.Test.YthfphjbaglgacaaL24
import Derived.Test.YthfphjbaglgacaaL24b
import Derived.Test.YthfphjbaglgacaaL23g
import Derived.Test.YthfphjbaglgacaaL23h
import Derived.Test.YthfphjbaglgacaaL23i
import Derived.WalkKit
import Derived.Lib.Hide
namespace Go.Proofs.Ythfphjbaglgacaa
open Go.RowKit
set_option linter.unusedVariables false
theorem spq_parts {C : Ch} {sc : Int} {ps : List (Int × Int)} (h : spqC C sc ps = 0) : ckC C sc (okFs ps) = 0 ∧ ps.length ≤ 100 ∧ ps.all (ptOk C sc) = true := by
  unfold spqC at h
  by_cases h1 : ckC C sc (okFs ps) = 0
  · rw [if_pos h1] at h
    by_cases h2 : ps.length ≤ 100
    · rw [if_pos h2] at h
      unfold pcC at h
      by_cases h3 : ps.all (ptOk C sc) = true
      · exact ⟨h1, h2, h3⟩
      · rw [if_neg h3] at h; cases h
    · rw [if_neg h2] at h; cases h
  · rw [if_neg h1] at h; exact absurd h h1
theorem spq_list {C : Ch} {sc : Int} {ps : List (Int × Int)} (h : spqC C sc ps = 0) : spqV C sc ps = ps.map (ptOf C sc) := by
  obtain ⟨_, _, h3⟩ := spq_parts h
  simp [spqV, h, pcV, h3]
theorem spq_at {C : Ch} {sc : Int} {ps : List (Int × Int)} (h : spqC C sc ps = 0) {i : Nat} (hi : i < ps.length) : cqC C sc ps[i].1 ps[i].2 = 0 ∧ ptX C sc ps[i].1 ps[i].2 = ppX C sc ps[i].1 ps[i].2 ∧ ptY C sc ps[i].1 ps[i].2 = ppY C sc ps[i].1 ps[i].2 := by
  obtain ⟨h1, _, h3⟩ := spq_parts h
  obtain ⟨k1, k2, k3⟩ := ckC_0 h1
  have hp : plC C sc ps[i].1 ps[i].2 = 0 := by
    have := List.all_eq_true.1 h3 _ (List.getElem_mem hi)
    simpa [ptOk] using this
  have hf : okF ps[i].1 ps[i].2 = true := List.all_eq_true.1 k2 _ (List.getElem_mem hi)
  have hc : ckC C sc (okF ps[i].1 ps[i].2) = 0 := by simp [ckC, k1, hf, k3]
  have hq : cqC C sc ps[i].1 ps[i].2 = 0 := by simp [cqC, hc, hp]
  refine ⟨hq, by simp [ptX, ppX, hq, hp], ?_⟩
  simp [ptY, ppY, hq, hp, cqL, cqH, plL, plH]
theorem ch_swap (C : Ch) (sc ud ut vd vt : Int) : chC C sc vd vt ud ut = chC C sc ud ut vd vt ∧ chV C sc vd vt ud ut = chV C sc ud ut vd vt ∧ 0 ≤ chV C sc ud ut vd vt := by
  have e1 : chK C sc vd vt ud ut = chK C sc ud ut vd vt := by unfold chK; rw [Bool.and_comm]
  have e2 : pcC C sc [(vd, vt), (ud, ut)] = pcC C sc [(ud, ut), (vd, vt)] := by
    unfold pcC
    have : [(vd, vt), (ud, ut)].all (ptOk C sc) = [(ud, ut), (vd, vt)].all (ptOk C sc) := by simp [Bool.and_comm]
    rw [this]
  have e3 : chC C sc vd vt ud ut = chC C sc ud ut vd vt := by unfold chC; rw [e1, e2]
  refine ⟨e3, by unfold chV; rw [e3, Ab_sub], ?_⟩
  unfold chV Ab
  split
  · split <;> omega
  · omega
end Go.Proofs.Ythfphjbaglgacaa
