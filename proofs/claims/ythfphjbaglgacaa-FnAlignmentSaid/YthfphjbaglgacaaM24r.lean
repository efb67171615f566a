/- Chapter 24: the error of a reading. No conditions. -/
import Derived.Test.YthfphjbaglgacaaProg
import Derived.Test.YthfphjbaglgacaaBase
import Derived.Test.YthfphjbaglgacaaL01
import Derived.Test.YthfphjbaglgacaaCp
import Derived.Test.YthfphjbaglgacaaL18
import Derived.Test.YthfphjbaglgacaaL23
import Derived.Test.YthfphjbaglgacaaL03
import Derived.Test.YthfphjbaglgacaaL04
import Derived.Test.YthfphjbaglgacaaL23d
import Derived.Test.YthfphjbaglgacaaL23e
import Derived.Test.YthfphjbaglgacaaL23f
import Derived.Test.YthfphjbaglgacaaL24
import Derived.Test.YthfphjbaglgacaaL24b
import Derived.Test.YthfphjbaglgacaaL24c
import Derived.Test.YthfphjbaglgacaaL24d
import Derived.Test.YthfphjbaglgacaaL24f
import Derived.Test.YthfphjbaglgacaaL24g
import Derived.Test.YthfphjbaglgacaaL24r
import Derived.Test.YthfphjbaglgacaaM24
import Derived.WalkKit
import Derived.Lib.Hide
namespace Go.Proofs.Ythfphjbaglgacaa
open Go.RowKit
set_option linter.unusedVariables false
theorem re_nonneg {C : Ch} {ud ut vd vt e : Int} (h : okCh C = true) (hc : lhC C ud ut vd vt = 0) (he : 0 ≤ e) : 0 ≤ reX C ud ut vd vt e := by
  obtain ⟨a, b⟩ := rd_in h hc he
  have := fm_le h ud ut vd vt
  unfold reX mx
  split <;> omega
theorem re_mono {C : Ch} {ud ut vd vt e f : Int} (h : okCh C = true) (hc : lhC C ud ut vd vt = 0) (he : e ≤ f) : reX C ud ut vd vt e ≤ reX C ud ut vd vt f := by
  obtain ⟨a, b⟩ := rd_mono h hc he
  unfold reX mx
  split <;> split <;> omega
end Go.Proofs.Ythfphjbaglgacaa
