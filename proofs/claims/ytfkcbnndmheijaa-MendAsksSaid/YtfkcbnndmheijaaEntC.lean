/-
  THE WALKS OF entry's texts, entry, Bytes.
-/
import Derived.Test.YtfkcbnndmheijaaEntB
import Derived.IntWalk
namespace Go.Proofs.Ytfkcbnndmheijaa
open Go.RowKit
set_option linter.unusedVariables false
set_option linter.unusedSimpArgs false
/-- the kinds are bytes -/
def U8 (e : En) : Prop := 0 ≤ e.k ∧ e.k < 256 ∧ 0 ≤ e.ok ∧ e.ok < 256
end Go.Proofs.Ytfkcbnndmheijaa
