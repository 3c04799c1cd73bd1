/-
  THE WALKS OF entry's MayOp, May, ballot.
-/
import Derived.Test.YtfkcbnndmheijaaEq
import Derived.Test.YtfkcbnndmheijaaHeapB
namespace Go.Proofs.Ytfkcbnndmheijaa
open Go.RowKit
set_option linter.unusedVariables false
set_option linter.unusedSimpArgs false

theorem b_noop : Try.prog.built 38 [(0, .int .u8 1)] = some (enC noop).toArray := by kernel_rfl
/-- the texts of an entry are of a length that there is -/
def Sm (e : En) : Prop := e.s0.size ≤ maxLen ∧ e.s1.size ≤ maxLen ∧ e.s2.size ≤ maxLen
end Go.Proofs.Ytfkcbnndmheijaa
