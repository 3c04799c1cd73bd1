/-
  MORE OF THE SMALL HEAP: bytes that are made; bytes as a text.
-/
import Derived.Test.YtkfpiojhfjmnaaaHeapF
import Derived.Test.YtkfpiojhfjmnaaaEq
namespace Go.Proofs.Ytkfpiojhfjmnaaa
open Go.RowKit
set_option linter.unusedVariables false
section
variable {a : Act} {w0 w : World} {Q : Exit → Act → World → Prop} {L : List Item} {ops : Array Oper} {rest : List Oper} {d : Option Tmp} {tt : TypeId} {ps : String} {af : Array Edge} {gd : Option (Nat × Bool)} {x y : Operand}
theorem Hp.mkB (H : Hp w0 w L) (h : ∃ n : Nat, (∃ kl, a.eval x = .int kl (n : Int)) ∧ (∃ kc, a.eval y = .int kc (n : Int)) ∧ Nat.ble n 1000000 = true ∧
    ∀ g w', Hp w0 w' (.bytes (some ⟨g, 0, none⟩) n (List.replicate n 0) :: L) → wpList Try.prog ops Q rest (a.put d (.slice (some ⟨g, 0, none⟩) n n)) w') :
    wpList Try.prog ops Q ({ dst := d, op := .makeSlice 29 x y, type := tt, pos := ps, after := af, guard := none } :: rest) a w := by
  obtain ⟨n, ⟨kl, hx⟩, ⟨kc, hy⟩, hn, hk⟩ := h
  have hn := Nat.le_of_ble_eq_true hn
  exact wpList_make_bytes w rfl x y rfl w.heap.size kl kc _ _ n hx hy rfl rfl (by omega) (Nat.le_refl _) (fun w' ho hb hz => hk _ _ (H.callOwn hb ho))
theorem Hp.cvS (H : Hp w0 w L) (h : Region.wanted { dst := d, op := .convert 29 9 x, type := tt, pos := ps, after := af, guard := gd } (yielded ops a.tmps) = true ∧ ∃ A n c, a.eval x = .slice A n c ∧ ∃ l, Rd w A l ∧ n = l.length ∧ wpList Try.prog ops Q rest (a.put d (.string ⟨l.toArray⟩)) w) :
    wpList Try.prog ops Q ({ dst := d, op := .convert 29 9 x, type := tt, pos := ps, after := af, guard := gd } :: rest) a w := by
  obtain ⟨h1, A, n, c, hx, l, hr, hn, hk⟩ := h
  have := run_convert_str w A n c l hn hr
  exact wl_val (.string ⟨l.toArray⟩) h1 (by simp [execOp, hx, this]) hk
end
end Go.Proofs.Ytkfpiojhfjmnaaa
