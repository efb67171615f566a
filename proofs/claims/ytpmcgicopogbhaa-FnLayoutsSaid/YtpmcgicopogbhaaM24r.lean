/- Chapter 24: the error of a reading. No conditions. -/
import Derived.Test.YtpmcgicopogbhaaProg
import Derived.Test.YtpmcgicopogbhaaBase
import Derived.Test.YtpmcgicopogbhaaL01
import Derived.Test.YtpmcgicopogbhaaCp
import Derived.Test.YtpmcgicopogbhaaL18
import Derived.Test.YtpmcgicopogbhaaL23
import Derived.Test.YtpmcgicopogbhaaL03
import Derived.Test.YtpmcgicopogbhaaL04
import Derived.Test.YtpmcgicopogbhaaL23d
import Derived.Test.YtpmcgicopogbhaaL23e
import Derived.Test.YtpmcgicopogbhaaL23f
import Derived.Test.YtpmcgicopogbhaaL24
import Derived.Test.YtpmcgicopogbhaaL24b
import Derived.Test.YtpmcgicopogbhaaL24c
import Derived.Test.YtpmcgicopogbhaaL24d
import Derived.Test.YtpmcgicopogbhaaL24f
import Derived.Test.YtpmcgicopogbhaaL24g
import Derived.Test.YtpmcgicopogbhaaL24r
import Derived.Test.YtpmcgicopogbhaaM24
import Derived.WalkKit
import Derived.Lib.Hide
namespace Go.Proofs.Ytpmcgicopogbhaa
open Go.RowKit
set_option linter.unusedVariables false
theorem re_nonneg {C : Ch} {ud ut vd vt e : Int} (h : okCh C = true) (hc : lhC C ud ut vd vt = 0) (he : 0 ≤ e) : 0 ≤ reX C ud ut vd vt e := by
  obtain ⟨a, b⟩ := rd_in h hc he
  have := fm_le h ud ut vd vt
  unfold reX mx
  split <;> omega
theorem re_mono {C : Ch} {ud ut vd vt e f : Int} (h : okCh C = true) (hc : lhC C ud ut vd vt = 0) (he : e ≤ f) : reX C ud ut vd vt e ≤ reX C ud ut vd vt f := by
  obtain ⟨a, b⟩ := rd_mono h hc he
  unfold reX mx
  split <;> split <;> omega
end Go.Proofs.Ytpmcgicopogbhaa
