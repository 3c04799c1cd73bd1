/-
  THE WALKS OF Same AND Copy (the reference's two words on bytes).
-/
import Derived.Test.YtiieakndjheknaaDoorMem
namespace Go.Proofs.YtiieakndjheknaaDoor
open Go.RowKit

theorem eqB_self (l : List UInt8) : eqB l l = true := by simp [eqB]

end Go.Proofs.YtiieakndjheknaaDoor
