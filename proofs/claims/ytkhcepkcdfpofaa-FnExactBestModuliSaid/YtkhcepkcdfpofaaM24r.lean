/- Chapter 24: the error of a reading. No conditions. -/
import Derived.Test.YtkhcepkcdfpofaaProg
import Derived.Test.YtkhcepkcdfpofaaBase
import Derived.Test.YtkhcepkcdfpofaaL01
import Derived.Test.YtkhcepkcdfpofaaCp
import Derived.Test.YtkhcepkcdfpofaaCh
import Derived.Test.YtkhcepkcdfpofaaL18
import Derived.Test.YtkhcepkcdfpofaaL23
import Derived.Test.YtkhcepkcdfpofaaL03
import Derived.Test.YtkhcepkcdfpofaaL04
import Derived.Test.YtkhcepkcdfpofaaL23d
import Derived.Test.YtkhcepkcdfpofaaL23e
import Derived.Test.YtkhcepkcdfpofaaL23f
import Derived.Test.YtkhcepkcdfpofaaL24
import Derived.Test.YtkhcepkcdfpofaaL24b
import Derived.Test.YtkhcepkcdfpofaaL24c
import Derived.Test.YtkhcepkcdfpofaaL24d
import Derived.Test.YtkhcepkcdfpofaaL24f
import Derived.Test.YtkhcepkcdfpofaaL24g
import Derived.Test.YtkhcepkcdfpofaaL24r
import Derived.Test.YtkhcepkcdfpofaaM24
import Derived.WalkKit
import Derived.Lib.Hide
namespace Go.Proofs.Ytkhcepkcdfpofaa
open Go.RowKit
set_option linter.unusedVariables false
theorem re_nonneg {C : Ch} {ud ut vd vt e : Int} (h : okCh C = true) (hc : lhC C ud ut vd vt = 0) (he : 0 ≤ e) : 0 ≤ reX C ud ut vd vt e := by
  obtain ⟨a, b⟩ := rd_in h hc he
  have := fm_le h ud ut vd vt
  unfold reX mx
  split <;> omega
theorem re_mono {C : Ch} {ud ut vd vt e f : Int} (h : okCh C = true) (hc : lhC C ud ut vd vt = 0) (he : e ≤ f) : reX C ud ut vd vt e ≤ reX C ud ut vd vt f := by
  obtain ⟨a, b⟩ := rd_mono h hc he
  unfold reX mx
  split <;> split <;> omega
end Go.Proofs.Ytkhcepkcdfpofaa
