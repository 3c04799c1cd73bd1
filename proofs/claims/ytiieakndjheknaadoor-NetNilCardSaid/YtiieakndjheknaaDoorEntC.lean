/-
  THE WALKS OF entry's texts, entry, Bytes.
-/
import Derived.Test.YtiieakndjheknaaDoorEntB
import Derived.IntWalk
namespace Go.Proofs.YtiieakndjheknaaDoor
open Go.RowKit
set_option linter.unusedVariables false
set_option linter.unusedSimpArgs false
/-- the kinds are bytes -/
def U8 (e : En) : Prop := 0 ≤ e.k ∧ e.k < 256 ∧ 0 ≤ e.ok ∧ e.ok < 256
theorem may_b (e : En) (w : World) (b : Bool) (hb : mayB e = b) (hs : Sm e) : Calls Tryd.prog 63 #[.agg (enC e).toArray] w (RetV w (.bool b)) := by
  subst hb
  exact may_any e w hs
end Go.Proofs.YtiieakndjheknaaDoor
