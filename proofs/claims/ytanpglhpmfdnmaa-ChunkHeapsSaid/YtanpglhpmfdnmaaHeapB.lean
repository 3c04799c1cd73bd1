/-
  MORE OF THE SMALL HEAP: a region that draws its order, what follows behind a variable.
-/
import Derived.Test.YtanpglhpmfdnmaaTy
namespace Go.Proofs.Ytanpglhpmfdnmaa
open Go.RowKit
set_option linter.unusedVariables false
section
variable {P : Program} {a : Act} {w0 w : World} {Q : Exit → Act → World → Prop} {L : List Item} {ops : Array Oper} {rest : List Oper} {d : Option Tmp} {ty tt : TypeId} {x y : Operand} {ps : String} {af : Array Edge} {gd : Option (Nat × Bool)}
theorem wp_region_hpK (H : Hp w0 w L) {id : Nat} {l : List Oper} (hm : P.follows .mixedOrders = true) (hB : Region.lexB .any l.toArray = true)
    (h : ∀ [Nonempty (HpS w0 L)] (K : Act → Prop), (∀ a', (∀ w', Hp w0 w' L → Q .normal a' w') → K a') → wpQuiet P l.toArray (fun w' => ∃ x : HpS w0 L, w' = x.val) K l a) : (Code.region id l.toArray true).wp P Q a w := by
  refine wp_region_hp H hm hB ?_
  intro _
  exact h _ fun a' ha w' ⟨x, hx⟩ => by subst hx; exact ha _ x.2
theorem Hp.lds (H : Hp w0 w L) (h : Region.wanted { dst := d, op := .load ty x, type := tt, pos := ps, after := af, guard := gd } (yielded ops a.tmps) = true ∧ rowT P ty = true ∧ ∃ n, sizeT P ty = some n ∧ ∃ g off, a.eval x = .pointer (some ⟨g, off, none⟩) ∧
    ∃ i t cs, Has L i (.blk g t cs) ∧ ∃ vs : List Value, (cs.drop off).take n = vs ∧ vs.length = n ∧ wpList P ops Q rest (a.put d (.agg vs.toArray)) w) :
    wpList P ops Q ({ dst := d, op := .load ty x, type := tt, pos := ps, after := af, guard := gd } :: rest) a w := by
  obtain ⟨h1, h2, n, h3, g, off, h4, i, t, cs, h5, vs, h6, h8, h7⟩ := h
  subst h8
  exact H.ldr vs ⟨h1, h2, h3, g, off, h4, i, t, cs, h5, h6, h7⟩
theorem hq_lds {Q : Act → Prop} (h : Region.wanted { dst := d, op := .load ty x, type := tt, pos := ps, after := af, guard := gd } (yielded ops a.tmps) = true ∧ rowT P ty = true ∧ ∃ n, sizeT P ty = some n ∧ ∃ g off, a.eval x = .pointer (some ⟨g, off, none⟩) ∧
    ∃ i t cs, Has L i (.blk g t cs) ∧ ∃ vs : List Value, (cs.drop off).take n = vs ∧ vs.length = n ∧ wpQuiet P ops (fun w' => ∃ x : HpS w0 L, w' = x.val) Q rest (a.put d (.agg vs.toArray))) :
    wpQuiet P ops (fun w' => ∃ x : HpS w0 L, w' = x.val) Q ({ dst := d, op := .load ty x, type := tt, pos := ps, after := af, guard := gd } :: rest) a := by
  obtain ⟨h1, h2, n, h3, g, off, h4, i, t, cs, h5, vs, h6, h8, h7⟩ := h
  subst h8
  exact hq_ldr vs ⟨h1, h2, h3, g, off, h4, i, t, cs, h5, h6, h7⟩
theorem Hp.bdl (H : Hp w0 w L) {t : TypeId} {parts : List (Nat × Operand)} (h : Region.wanted { dst := d, op := .build t parts.toArray, type := tt, pos := ps, after := af, guard := gd } (yielded ops a.tmps) = true ∧
    ∃ cs : List Value, P.built t (parts.map fun x => (x.1, a.eval x.2)) = some cs.toArray ∧ wpList P ops Q rest (a.put d (.agg cs.toArray)) w) :
    wpList P ops Q ({ dst := d, op := .build t parts.toArray, type := tt, pos := ps, after := af, guard := gd } :: rest) a w := by
  obtain ⟨h1, cs, h2, h3⟩ := h
  exact H.bld ⟨h1, cs, by simpa using h2, h3⟩
theorem hq_bdl {Q : Act → Prop} {t : TypeId} {parts : List (Nat × Operand)} (h : Region.wanted { dst := d, op := .build t parts.toArray, type := tt, pos := ps, after := af, guard := gd } (yielded ops a.tmps) = true ∧
    ∃ cs : List Value, P.built t (parts.map fun x => (x.1, a.eval x.2)) = some cs.toArray ∧ wpQuiet P ops (fun w' => ∃ x : HpS w0 L, w' = x.val) Q rest (a.put d (.agg cs.toArray))) :
    wpQuiet P ops (fun w' => ∃ x : HpS w0 L, w' = x.val) Q ({ dst := d, op := .build t parts.toArray, type := tt, pos := ps, after := af, guard := gd } :: rest) a := by
  obtain ⟨h1, cs, h2, h3⟩ := h
  exact hq_bld ⟨h1, cs, by simpa using h2, h3⟩
end
section
variable {P : Program} {a : Act} {w0 w : World} {Q : Exit → Act → World → Prop} {L : List Item} {ops : Array Oper} {rest : List Oper} {d : Option Tmp} {ty tt t2 : TypeId} {x y : Operand} {ps : String} {af : Array Edge} {gd : Option (Nat × Bool)}
theorem wl_val {o : Oper} (v : Value) (hw : Region.wanted o (yielded ops a.tmps) = true) (he : (execOp a.eval o).run P w = .ok (.value v) w) (hk : wpList P ops Q rest (a.put o.dst v) w) : wpList P ops Q (o :: rest) a w := by
  refine BigFrame.wpList_want hw fun K hK => ?_
  unfold Oper.wp
  rw [he]
  exact hK _ _ hk
end
end Go.Proofs.Ytanpglhpmfdnmaa
