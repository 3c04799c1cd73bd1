/-
  MORE OF THE SMALL HEAP: a region that draws the order of what it reads, then writes in one order.
-/
import Derived.Test.YtanpglhpmfdnmaaHeapB
import Derived.StillTailTactics
namespace Go.Proofs.Ytanpglhpmfdnmaa
open Go.RowKit
set_option linter.unusedVariables false
section
variable {P : Program} {a : Act} {w0 w : World} {Q : Exit → Act → World → Prop} {L : List Item} {ops : Array Oper} {rest : List Oper} {d : Option Tmp} {ty tt : TypeId} {x y : Operand} {ps : String} {af : Array Edge} {gd : Option (Nat × Bool)}
theorem wp_region_hpT (H : Hp w0 w L) {id : Nat} {l : List Oper} (n : Nat) (hm : P.follows .mixedOrders = true) (hB : Region.lexTailB .any l.toArray n = true)
    (h : ∀ (w' : World) (K : Act → Prop), Hp w0 w' L → (∀ a', wpList P l.toArray Q (l.drop n) a' w' → K a') → wpStill P l.toArray w' K (l.take n) a) : (Code.region id l.toArray true).wp P Q a w :=
  wp_region_still_tail n hm hB (h _ _ H.drew fun _ h => h)
theorem st_run {Q : Act → Prop} {o : Oper} (hw : Region.wanted o (yielded ops a.tmps) = true) (v : Value) (h : (execOp a.eval o).run P w = .ok (.value v) w) (hk : wpStill P ops w Q rest (a.put o.dst v)) : wpStill P ops w Q (o :: rest) a := by
  refine wpStill_step fun K hK => ?_
  rw [if_pos hw]
  unfold Oper.still
  rw [h, Oper.stillUpon_value]
  exact hK _ hk
theorem st_ld {Q : Act → Prop} (H : Hp w0 w L) (h : Region.wanted { dst := d, op := .load ty x, type := tt, pos := ps, after := af, guard := gd } (yielded ops a.tmps) = true ∧ oneT P ty = true ∧ ∃ g off, a.eval x = .pointer (some ⟨g, off, none⟩) ∧
    ∃ i t cs, Has L i (.blk g t cs) ∧ ∃ v, cs[off]? = some v ∧ wpStill P ops w Q rest (a.put d v)) :
    wpStill P ops w Q ({ dst := d, op := .load ty x, type := tt, pos := ps, after := af, guard := gd } :: rest) a := by
  obtain ⟨h1, h2, g, off, hx, i, t, cs, hL, v, hv, h⟩ := h
  refine st_run h1 v ?_ h
  have := run_loadAt_cell (P := P) (oneT_c h2) (H.c i hL.get off hv)
  simp [execOp, hx, this]
theorem st_lda {Q : Act → Prop} (H : Hp w0 w L) (h : Region.wanted { dst := d, op := .load ty x, type := tt, pos := ps, after := af, guard := gd } (yielded ops a.tmps) = true ∧ rowT P ty = true ∧ ∃ n, sizeT P ty = some n ∧ ∃ g, a.eval x = .pointer (some ⟨g, 0, none⟩) ∧
    ∃ i t cs, Has L i (.blk g t cs) ∧ cs.length = n ∧ wpStill P ops w Q rest (a.put d (.agg cs.toArray))) :
    wpStill P ops w Q ({ dst := d, op := .load ty x, type := tt, pos := ps, after := af, guard := gd } :: rest) a := by
  obtain ⟨h1, h2, n, h3, g, hx, i, t, cs, hL, hl, h⟩ := h
  refine st_run h1 _ ?_ h
  have := run_loadAt_row (P := P) h2 (by rw [hl]; exact h3) (H.range i hL.get 0 n (vs := cs) (by rw [List.drop_zero, ← hl, List.take_length]))
  simp [execOp, hx, this]
theorem st_lds {Q : Act → Prop} (H : Hp w0 w L) (h : Region.wanted { dst := d, op := .load ty x, type := tt, pos := ps, after := af, guard := gd } (yielded ops a.tmps) = true ∧ rowT P ty = true ∧ ∃ n, sizeT P ty = some n ∧ ∃ g off, a.eval x = .pointer (some ⟨g, off, none⟩) ∧
    ∃ i t cs, Has L i (.blk g t cs) ∧ ∃ vs : List Value, (cs.drop off).take n = vs ∧ vs.length = n ∧ wpStill P ops w Q rest (a.put d (.agg vs.toArray))) :
    wpStill P ops w Q ({ dst := d, op := .load ty x, type := tt, pos := ps, after := af, guard := gd } :: rest) a := by
  obtain ⟨h1, h2, n, h3, g, off, hx, i, t, cs, hL, vs, h6, h8, h⟩ := h
  subst h8
  refine st_run h1 _ ?_ h
  have := run_loadAt_row (P := P) h2 h3 (H.range i hL.get off _ h6)
  simp [execOp, hx, this]
theorem st_bdl {Q : Act → Prop} {t : TypeId} {parts : List (Nat × Operand)} (h : Region.wanted { dst := d, op := .build t parts.toArray, type := tt, pos := ps, after := af, guard := gd } (yielded ops a.tmps) = true ∧
    ∃ cs : List Value, P.built t (parts.map fun x => (x.1, a.eval x.2)) = some cs.toArray ∧ wpStill P ops w Q rest (a.put d (.agg cs.toArray))) :
    wpStill P ops w Q ({ dst := d, op := .build t parts.toArray, type := tt, pos := ps, after := af, guard := gd } :: rest) a := by
  obtain ⟨h1, cs, h2, h⟩ := h
  refine st_run h1 _ ?_ h
  have := run_build (P := P) w t (parts.map fun x => (x.1, a.eval x.2)).toArray cs.toArray (by simpa using h2)
  simp [execOp, this]
end
end Go.Proofs.Ytanpglhpmfdnmaa
