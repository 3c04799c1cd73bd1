/-
  MORE OF THE SMALL HEAP: rows of an argument.
-/
import Derived.Test.YtfkcbnndmheijaaEq
import Derived.Test.YtfkcbnndmheijaaHeapF
namespace Go.Proofs.Ytfkcbnndmheijaa
open Go.RowKit
set_option linter.unusedVariables false
section
variable {P : Program} {a : Act} {w0 w : World} {Q : Exit → Act → World → Prop} {L : List Item} {ops : Array Oper} {rest : List Oper} {d : Option Tmp} {ty tt t2 : TypeId} {x y : Operand} {ps : String} {af : Array Edge} {gd : Option (Nat × Bool)}
theorem Hp.oldRange (H : Hp w0 w L) {b off : Nat} {vs : List Value} (h : w0.rangeAt b off vs) : w.rangeAt b off vs := fun j v hj => H.old (h j v hj)
theorem Hp.ldrO (H : Hp w0 w L) (h : Region.wanted { dst := d, op := .load ty x, type := tt, pos := ps, after := af, guard := gd } (yielded ops a.tmps) = true ∧ rowT P ty = true ∧ ∃ b off, a.eval x = .pointer (some ⟨b, off, none⟩) ∧
    ∃ vs : List Value, w0.rangeAt b off vs ∧ sizeT P ty = some vs.length ∧ wpList P ops Q rest (a.put d (.agg vs.toArray)) w) :
    wpList P ops Q ({ dst := d, op := .load ty x, type := tt, pos := ps, after := af, guard := gd } :: rest) a w := by
  obtain ⟨h1, h2, b, off, hx, vs, hr, hn, hk⟩ := h
  have := run_loadAt_row (P := P) h2 hn (H.oldRange hr)
  exact wl_val _ h1 (by simp [execOp, hx, this]) hk
theorem hq_ldrO {Q : Act → Prop} (h : Region.wanted { dst := d, op := .load ty x, type := tt, pos := ps, after := af, guard := gd } (yielded ops a.tmps) = true ∧ rowT P ty = true ∧ ∃ b off, a.eval x = .pointer (some ⟨b, off, none⟩) ∧
    ∃ vs : List Value, w0.rangeAt b off vs ∧ sizeT P ty = some vs.length ∧ wpQuiet P ops (fun w' => ∃ x : HpS w0 L, w' = x.val) Q rest (a.put d (.agg vs.toArray))) :
    wpQuiet P ops (fun w' => ∃ x : HpS w0 L, w' = x.val) Q ({ dst := d, op := .load ty x, type := tt, pos := ps, after := af, guard := gd } :: rest) a := by
  obtain ⟨h1, h2, b, off, hx, vs, hr, hn, hk⟩ := h
  refine BigFrame.wpQuiet_want h1 fun K hK => quiet_of_run _ ?_ (hK _ hk)
  rintro w ⟨⟨w, H⟩, rfl⟩
  have := run_loadAt_row (P := P) h2 hn (H.oldRange hr)
  simp [execOp, hx, this]
end
end Go.Proofs.Ytfkcbnndmheijaa
