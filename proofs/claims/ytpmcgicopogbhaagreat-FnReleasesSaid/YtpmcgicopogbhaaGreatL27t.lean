/- Chapter 27: a test of a pair. Conditions: as stated at each contract. -/
import Derived.Test.YtpmcgicopogbhaaGreatProg
import Derived.Test.YtpmcgicopogbhaaGreatBase
import Derived.Test.YtpmcgicopogbhaaGreatRw
import Derived.Test.YtpmcgicopogbhaaGreatRg
import Derived.Test.YtpmcgicopogbhaaGreatL01
import Derived.Test.YtpmcgicopogbhaaGreatCp
import Derived.Test.YtpmcgicopogbhaaGreatL18
import Derived.Test.YtpmcgicopogbhaaGreatL23
import Derived.Test.YtpmcgicopogbhaaGreatL03
import Derived.Test.YtpmcgicopogbhaaGreatL04
import Derived.Test.YtpmcgicopogbhaaGreatL23d
import Derived.Test.YtpmcgicopogbhaaGreatL23e
import Derived.Test.YtpmcgicopogbhaaGreatL24
import Derived.Test.YtpmcgicopogbhaaGreatL24b
import Derived.Test.YtpmcgicopogbhaaGreatL24c
import Derived.Test.YtpmcgicopogbhaaGreatL24f
import Derived.Test.YtpmcgicopogbhaaGreatL24g
import Derived.Test.YtpmcgicopogbhaaGreatL24r
import Derived.Test.YtpmcgicopogbhaaGreatL23g
import Derived.Test.YtpmcgicopogbhaaGreatL23h
import Derived.Test.YtpmcgicopogbhaaGreatL27o
import Derived.Test.YtpmcgicopogbhaaGreatL27a
import Derived.Test.YtpmcgicopogbhaaGreatL27b
import Derived.Test.YtpmcgicopogbhaaGreatL27c
import Derived.WalkKit
import Derived.WalkSpells
import Derived.WalkLawsBesides
import Derived.Lib.Hide
import Derived.Deep.QuietTactic
import Derived.BigQuiet
import Derived.Deep.Draws
import Derived.Deep.RegionHeld3
import Derived.Deep.Cut
namespace Go.Proofs.YtpmcgicopogbhaaGreat
open Go.RowKit
set_option linter.unusedVariables false
/-- The code of a test. -/
def tpC (R : Re) (ud ut vd vt : Int) : Int := if pkC R ud ut vd vt = 0 then (if cvR R ud ut vd vt = true then 0 else 5) else pkC R ud ut vd vt
def tpB (R : Re) (ud ut vd vt : Int) : Bool := decide (tpC R ud ut vd vt = 0) && decide (reX R.ch ud ut vd vt R.ey ≤ R.bo)
theorem tp_no {R : Re} {ud ut vd vt : Int} (h : pkC R ud ut vd vt ≠ 0) : tpC R ud ut vd vt = pkC R ud ut vd vt ∧ tpB R ud ut vd vt = false := by simp [tpB, tpC, h]
theorem tp_five {R : Re} {ud ut vd vt : Int} (h : pkC R ud ut vd vt = 0) (hc : cvR R ud ut vd vt = false) : tpC R ud ut vd vt = 5 ∧ tpB R ud ut vd vt = false := by simp [tpB, tpC, h, hc]
theorem tp_0 {R : Re} {ud ut vd vt : Int} (h : pkC R ud ut vd vt = 0) (hc : cvR R ud ut vd vt = true) : tpC R ud ut vd vt = 0 ∧ tpB R ud ut vd vt = decide (reX R.ch ud ut vd vt R.ey ≤ R.bo) := by simp [tpB, tpC, h, hc]
theorem cov_rr {R : Re} {ud ut vd vt : Int} (h : okRe R = true) (hu : okF ud ut = true) (hv : okF vd vt = true) (hc : cvR R ud ut vd vt = true) : rqC R.ch ud ut vd vt R.ey = 0 ∧ rrV R.ch ud ut vd vt R.ey = reX R.ch ud ut vd vt R.ey ∧ lhC R.ch ud ut vd vt = 0 ∧ reV R.ch ud ut vd vt R.ey = reX R.ch ud ut vd vt R.ey := by
  have l := cov_lh h hu hv hc
  obtain ⟨k, _, _, _, _, e, _⟩ := okRe_iff h
  have hk : clC R.ch R.ey (okF ud ut && okF vd vt) = 0 := by simp [clC, k, hu, hv, e]
  have hq : rqC R.ch ud ut vd vt R.ey = 0 := by rw [(rq_0 hk).1]; exact l
  exact ⟨hq, by simp [rrV, hq], l, by simp [reV, l]⟩
end Go.Proofs.YtpmcgicopogbhaaGreat
