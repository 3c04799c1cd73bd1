/-
  THE WALKS OF entry's pen: put, write, get, read.
-/
import Derived.Test.YtfkcbnndmheijaaEntA
import Derived.Test.YtfkcbnndmheijaaHeapE
namespace Go.Proofs.Ytfkcbnndmheijaa
open Go.RowKit
set_option linter.unusedVariables false
set_option linter.unusedSimpArgs false

/-- what then lies where the text was to be put -/
def tV (l : List UInt8) (r : Rs) (s : ByteArray) : ByteArray := if tB l r then s else bs (tS l r)
theorem set_same {cs : List Value} {off : Nat} {v : Value} (h : cs[off]? = some v) : cs.set off v = cs := by
  obtain ⟨h1, h2⟩ := List.getElem?_eq_some_iff.1 h
  rw [← h2, List.set_getElem_self]
end Go.Proofs.Ytfkcbnndmheijaa
