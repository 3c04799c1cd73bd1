/-
  A TEXT TURNED TO BYTES: the row lies as an object that is no row of the call's own (its end is marked); it reads as the text's bytes.
-/
import Derived.Test.YtajgikjmoeemnaaDoorPk4
import Derived.Lib.ConvBytes
namespace Go.Proofs.YtajgikjmoeemnaaDoor
set_option maxRecDepth 100000
open Go.RowKit
set_option linter.unusedVariables false
set_option linter.unusedSimpArgs false
def cvO (s : ByteArray) (k : Nat) : Obj := .cells ((s.data.map fun b => Value.int .u8 b.toNat) ++ Array.replicate k (.int .u8 0)) 5 (s.size + k, s.size + k + 1)
theorem rd_cvO {w : World} {g : Nat} {s : ByteArray} {k : Nat} (hg : w.heap[g]? = some (cvO s k)) : Rd w (some ⟨g, 0, none⟩) s.data.toList := by
  intro hn
  refine ⟨g, 0, rfl, fun i hi => ?_⟩
  have hi2 : i < s.data.size := by simpa using hi
  have hi3 : i < s.size := hi2
  simp [World.cell?, hg, cvO, Array.getElem?_append, hi3]
section
variable {a : Act} {w0 w : World} {Q : Exit → Act → World → Prop} {L : List Item} {ops : Array Oper} {rest : List Oper} {d : Option Tmp} {tt : TypeId} {x : Operand} {ps : String} {af : Array Edge} {gd : Option (Nat × Bool)}
theorem Hp.cvB (H : Hp w0 w L) (h : Region.wanted { dst := d, op := .convert 9 32 x, type := tt, pos := ps, after := af, guard := gd } (yielded ops a.tmps) = true ∧ ∃ s : ByteArray, a.eval x = .string s ∧ s.size ≤ maxLen ∧
    ∀ g k w', s.size + k ≤ maxLen → Hp w0 w' (.obj g (cvO s k) :: L) → wpList Tryd.prog ops Q rest (a.put d (.slice (some ⟨g, 0, none⟩) s.size (s.size + k))) w') :
    wpList Tryd.prog ops Q ({ dst := d, op := .convert 9 32 x, type := tt, pos := ps, after := af, guard := gd } :: rest) a w := by
  obtain ⟨h1, s, hx, hs, hk⟩ := h
  have hr := Lib.run_convert_string_bytes (P := Tryd.prog) w 9 32 5 s Tryd.underlying9 u8_slice Tryd.underlying5
  have hge := grownCap_ge w s.size 0 5
  have hle := grownCap_le_maxLen w s.size 0 5 hs
  have hc : s.size + (grownCap w s.size 0 5 - s.size) = grownCap w s.size 0 5 := by omega
  have hH : Hp w0 (Lib.bytesWorld w 5 s) (.obj w.heap.size (cvO s (grownCap w s.size 0 5 - s.size)) :: L) := by
    refine H.new ?_ (by rw [Lib.bytesWorld_size]; omega) (fun k hk => Lib.bytesWorld_at_old w _ s k hk) ?_ (fun k hk => ?_)
    · have hb := H.below
      exact ⟨hb.os, hb.tape, hb.output, by rw [Lib.bytesWorld_size]; have := H.size; omega, fun k hk => by rw [Lib.bytesWorld_at_old w _ s k (Nat.lt_of_lt_of_le hk H.size)]; exact hb.block k hk⟩
    · show (Lib.bytesWorld w 5 s).heap[w.heap.size]? = _
      rw [Lib.bytesWorld_at_new]
      unfold cvO Lib.bytesCells
      simp
    · simp [Item.foot] at hk
      subst hk
      rw [Lib.bytesWorld_size]
      omega
  have h3 := hk w.heap.size _ _ (by rw [hc]; exact hle) hH
  rw [hc] at h3
  refine BigFrame.wpList_want h1 fun K hK => ?_
  unfold Oper.wp
  simp [execOp, hx, hr]
  exact hK _ _ h3
end
end Go.Proofs.YtajgikjmoeemnaaDoor
