/-
  THE WALK OF the law NetCut.
-/
import Derived.Test.YtiieakndjheknaaDoorNtM
namespace Go.Proofs.YtiieakndjheknaaDoor
set_option maxRecDepth 100000
open Go.RowKit
set_option linter.unusedVariables false
set_option linter.unusedSimpArgs false
end Go.Proofs.YtiieakndjheknaaDoor
