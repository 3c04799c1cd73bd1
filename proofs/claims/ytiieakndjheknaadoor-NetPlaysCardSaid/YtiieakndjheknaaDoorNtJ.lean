/-
  THE WALK OF the law NetFull.
-/
import Derived.Test.YtiieakndjheknaaDoorNtI
namespace Go.Proofs.YtiieakndjheknaaDoor
set_option maxRecDepth 100000
open Go.RowKit
set_option linter.unusedVariables false
set_option linter.unusedSimpArgs false
end Go.Proofs.YtiieakndjheknaaDoor
