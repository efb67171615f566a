/- Chapter 24: the error of a reading. No conditions. -/
import Derived.Test.YtpmcgicopogbhaaGreatProg
import Derived.Test.YtpmcgicopogbhaaGreatBase
import Derived.Test.YtpmcgicopogbhaaGreatL01
import Derived.Test.YtpmcgicopogbhaaGreatCp
import Derived.Test.YtpmcgicopogbhaaGreatL18
import Derived.Test.YtpmcgicopogbhaaGreatL23
import Derived.Test.YtpmcgicopogbhaaGreatL03
import Derived.Test.YtpmcgicopogbhaaGreatL04
import Derived.Test.YtpmcgicopogbhaaGreatL23d
import Derived.Test.YtpmcgicopogbhaaGreatL23e
import Derived.Test.YtpmcgicopogbhaaGreatL24
import Derived.Test.YtpmcgicopogbhaaGreatL24b
import Derived.Test.YtpmcgicopogbhaaGreatL24c
import Derived.Test.YtpmcgicopogbhaaGreatL24f
import Derived.Test.YtpmcgicopogbhaaGreatL24g
import Derived.Test.YtpmcgicopogbhaaGreatL24r
import Derived.Test.YtpmcgicopogbhaaGreatM24
import Derived.WalkKit
import Derived.Lib.Hide
namespace Go.Proofs.YtpmcgicopogbhaaGreat
open Go.RowKit
set_option linter.unusedVariables false
theorem re_nonneg {C : Ch} {ud ut vd vt e : Int} (h : okCh C = true) (hc : lhC C ud ut vd vt = 0) (he : 0 ≤ e) : 0 ≤ reX C ud ut vd vt e := by
  obtain ⟨a, b⟩ := rd_in h hc he
  have := fm_le h ud ut vd vt
  unfold reX mx
  split <;> omega
theorem re_mono {C : Ch} {ud ut vd vt e f : Int} (h : okCh C = true) (hc : lhC C ud ut vd vt = 0) (he : e ≤ f) : reX C ud ut vd vt e ≤ reX C ud ut vd vt f := by
  obtain ⟨a, b⟩ := rd_mono h hc he
  unfold reX mx
  split <;> split <;> omega
end Go.Proofs.YtpmcgicopogbhaaGreat
