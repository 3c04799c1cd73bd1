/-
  THE WALKS OF bytes.Clone, slices.Clone at bytes.
-/
import Derived.Test.YtiieakndjheknaaDoorPk1
namespace Go.Proofs.YtiieakndjheknaaDoor
set_option maxRecDepth 100000
open Go.RowKit
set_option linter.unusedVariables false

theorem own_none_lit (w : World) : Own (w.alloc (.cells #[] 5)) w.heap.size (some ⟨w.heap.size, 0, none⟩) 0 [] := own_lit w _ [] #[] rfl (Nat.le_refl _) (Nat.zero_le _) 0 rfl

set_option maxHeartbeats 400000 in
theorem clone_any (A : Option Addr) (c : Nat) (l : List UInt8) (w : World) (hr : Rd w A l) (hc : l.length ≤ 140737488355328) : Calls Tryd.prog 54 #[.slice A l.length c] w (RetB w l) := by
  have heq := fun (W : World) (a : Option Addr) (n c : Nat) => Lib.run_eql_slice_nil (P := Tryd.prog) W 32 5 a n c 0 0 Tryd.underlying32
  cases A with
  | none =>
    have hl : l = [] := by
      cases l with
      | nil => rfl
      | cons x xs => obtain ⟨b, o, e, _⟩ := hr (by simp); cases e
    subst hl
    go_enter Tryd.func54, Tryd.ntmps54
    go_wp2_with fail
    go_ret
    exact retB_mk rfl (Own.none_ _ _) (Below.refl _ _)
  | some a =>
    have ho := own_none_lit w
    have hr2 := hr.alloc (.cells #[] 5)
    have hlen : ([] : List UInt8).length + l.length ≤ 140737488355328 := by simpa using hc
    go_enter Tryd.func54, Tryd.ntmps54
    go_wp2_with (at_builtin; refine wpList_append_bytes _ rfl _ _ rfl w.heap.size _ 0 0 [] rfl rfl ho (some a) _ c l rfl rfl hr2 hlen ?_ ?_; (simp); intro A1 c1 w1 hown1 hb1 _)
    go_ret
    exact retB_mk (by simp) hown1 ((bal0 _ _).trans hb1)

theorem clone_n (A : Option Addr) (c : Nat) (l : List UInt8) (n : Nat) (w : World) (hr : Rd w A l) (hc : l.length ≤ 140737488355328) (hn : n = l.length) : Calls Tryd.prog 54 #[.slice A n c] w (RetB w l) := by
  subst hn
  exact clone_any A c l w hr hc
end Go.Proofs.YtiieakndjheknaaDoor
