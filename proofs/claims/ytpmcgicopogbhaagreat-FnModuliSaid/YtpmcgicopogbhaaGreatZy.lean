/- Shorter words for sizes. No conditions. -/
import Derived.Test.YtpmcgicopogbhaaGreatProg
import Derived.Test.YtpmcgicopogbhaaGreatBase
import Derived.WalkKit
import Derived.Lib.Hide
namespace Go.Proofs.YtpmcgicopogbhaaGreat
open Go.RowKit
set_option linter.unusedVariables false
theorem zl {a : Nat} {W w1 : World} (hb : Below W.heap.size W w1) (h : W.heap.size ≤ w1.heap.size → a < w1.heap.size := by (intro hq; (try simp at hq); omega)) : a < w1.heap.size := h hb.size
end Go.Proofs.YtpmcgicopogbhaaGreat
