/-
  MORE OF THE SMALL HEAP: bytes that are made; bytes as a text.
-/
import Derived.Test.YtkfpiojhfjmnaaaHeapF
import Derived.Test.YtkfpiojhfjmnaaaEq
namespace Go.Proofs.Ytkfpiojhfjmnaaa
open Go.RowKit
set_option linter.unusedVariables false
section
variable {a : Act} {w0 w : World} {Q : Exit → Act → World → Prop} {L : List Item} {ops : Array Oper} {rest : List Oper} {d : Option Tmp} {tt : TypeId} {ps : String} {af : Array Edge} {gd : Option (Nat × Bool)} {x y : Operand}
theorem Hp.mkB (H : Hp w0 w L) (h : ∃ n : Nat, (∃ kl, a.eval x = .int kl (n : Int)) ∧ (∃ kc, a.eval y = .int kc (n : Int)) ∧ Nat.ble n 1000000 = true ∧
    ∀ g w', Hp w0 w' (.bytes (some ⟨g, 0, none⟩) n (List.replicate n 0) :: L) → wpList Try.prog ops Q rest (a.put d (.slice (some ⟨g, 0, none⟩) n n)) w') :
    wpList Try.prog ops Q ({ dst := d, op := .makeSlice 29 x y, type := tt, pos := ps, after := af, guard := none } :: rest) a w := by
  obtain ⟨n, ⟨kl, hx⟩, ⟨kc, hy⟩, hn, hk⟩ := h
  have hn := Nat.le_of_ble_eq_true hn
  exact wpList_make_bytes w rfl x y rfl w.heap.size kl kc _ _ n hx hy rfl rfl (by omega) (Nat.le_refl _) (fun w' ho hb hz => hk _ _ (H.callOwn hb ho))
theorem Hp.cvS (H : Hp w0 w L) (h : Region.wanted { dst := d, op := .convert 29 9 x, type := tt, pos := ps, after := af, guard := gd } (yielded ops a.tmps) = true ∧ ∃ A n c, a.eval x = .slice A n c ∧ ∃ l, Rd w A l ∧ n = l.length ∧ wpList Try.prog ops Q rest (a.put d (.string ⟨l.toArray⟩)) w) :
    wpList Try.prog ops Q ({ dst := d, op := .convert 29 9 x, type := tt, pos := ps, after := af, guard := gd } :: rest) a w := by
  obtain ⟨h1, A, n, c, hx, l, hr, hn, hk⟩ := h
  have := run_convert_str w A n c l hn hr
  exact wl_val (.string ⟨l.toArray⟩) h1 (by simp [execOp, hx, this]) hk
/-- a slice of texts that is built -/
theorem Hp.bslS (H : Hp w0 w L) {n : Nat} {parts : List (Nat × Operand)} (h : Region.wanted { dst := d, op := .buildSlice 61 n parts.toArray, type := tt, pos := ps, after := af, guard := gd } (yielded ops a.tmps) = true ∧ Nat.ble n 1000 = true ∧ Nat.ble 1 n = true ∧
    ∃ vs : List Value, (parts.map fun x => (x.1, a.eval x.2)) = nums 0 vs ∧ vs.length = n ∧ vs.all (·.oneCell') = true ∧
    ∀ g w', Hp w0 w' (.blk g 9 vs :: L) → wpList Try.prog ops Q rest (a.put d (.slice (some ⟨g, 0, none⟩) n n)) w') :
    wpList Try.prog ops Q ({ dst := d, op := .buildSlice 61 n parts.toArray, type := tt, pos := ps, after := af, guard := gd } :: rest) a w := by
  obtain ⟨h1, h2, h2', vs, h3, h5, h6, h7⟩ := h
  have hn := Nat.le_of_ble_eq_true h2
  have hn1 := Nat.le_of_ble_eq_true h2'
  cases hi : Try.prog.info? 9 with
  | none => have := str_i; rw [hi] at this; cases this
  | some i =>
    have hu := str_i
    rw [hi] at hu
    simp only [Option.map_some, Option.some.injEq, Prod.mk.injEq] at hu
    have hr := run_bsl (P := Try.prog) w Try.underlying61 hi hu.1 hu.2 n (by omega) (by omega) (parts.map fun x => (x.1, a.eval x.2)).toArray vs (by
      have hf := fill_nums vs 0 ((Array.range (n * 1)).map (fun k => (Value.string ByteArray.empty).cells[k % (Value.string ByteArray.empty).cells.size]!)).toList h6 (by simp [h5])
      rw [List.take_zero, List.nil_append] at hf
      rw [show (parts.map fun x => (x.1, a.eval x.2)).toArray.toList = nums 0 vs from h3, ← hf])
    have he : (execOp a.eval { dst := d, op := .buildSlice 61 n parts.toArray, type := tt, pos := ps, after := af, guard := gd }).run Try.prog w = .ok (.value (.slice (some ⟨w.heap.size, 0, none⟩) n n)) (w.alloc (.cells vs.toArray 9)) := by
      have e : (parts.toArray.map fun x => (x.1, a.eval x.2)) = (parts.map fun x => (x.1, a.eval x.2)).toArray := by simp
      simp only [execOp, e]
      simp [hr]
    refine BigFrame.wpList_want h1 fun K hK => ?_
    unfold Oper.wp
    rw [he]
    exact hK _ _ (h7 _ _ (H.alloc _ _))
end
end Go.Proofs.Ytkfpiojhfjmnaaa
