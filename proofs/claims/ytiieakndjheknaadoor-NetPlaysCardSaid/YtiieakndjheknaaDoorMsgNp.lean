/-
  PLAIN: what sextonref20.right asks.
-/
import Derived.Test.YtiieakndjheknaaDoorMsgK
namespace Go.Proofs.YtiieakndjheknaaDoor
set_option maxRecDepth 100000
open Go.RowKit
set_option linter.unusedVariables false
def rightB (m : Mg) (rs : List Rp) (n : Int) : Bool := kindB m.k && (lets m.k).all (fun c => keepB c.toNat m rs n)
theorem MgN.sm2 {m : Mg} (h : MgN m) : Sm m.e := h.2.2.2.2.2.2.2.2.2.2.2.1
theorem in_ck (n : Int) : inB n 0 7 = (decide (0 ≤ n) && decide (n < 8)) := by unfold inB; congr 1; rw [decide_eq_decide]; omega
theorem in_ct (a b : Int) : inB a (b + 1) 8 = (decide (b < a) && decide (a ≤ 8)) := by unfold inB; congr 1
end Go.Proofs.YtiieakndjheknaaDoor
