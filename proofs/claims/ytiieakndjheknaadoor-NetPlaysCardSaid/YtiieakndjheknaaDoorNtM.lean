/-
  A NET OF WHICH TWO ARE CUT; reading beside a net.
-/
import Derived.Test.YtiieakndjheknaaDoorNtJ
import Derived.Test.YtiieakndjheknaaDoorNtK
namespace Go.Proofs.YtiieakndjheknaaDoor
set_option maxRecDepth 100000
open Go.RowKit
set_option linter.unusedVariables false
set_option linter.unusedSimpArgs false
/-! what holds of a net of which two are cut -/
def Inv (n x y : Int) (cut : List Bool) (cs : List MX) : Prop := cutB n cut x y = true ∧ ∀ c ∈ cs, cutB n cut c.m.fr c.m.to = false
theorem Inv.sub {n x y : Int} {cut : List Bool} {cs cs' : List MX} (h : Inv n x y cut cs) (s : cs' ⊆ cs) : Inv n x y cut cs' := ⟨h.1, fun c hc => h.2 c (s hc)⟩
theorem tak_sub (cs : List MX) (i : Int) : ntakL cs i ⊆ cs := by
  unfold ntakL
  split
  · exact fun _ h => h
  · exact List.eraseIdx_subset
theorem Inv.take {n x y : Int} {cut : List Bool} {cs : List MX} (h : Inv n x y cut cs) (i : Int) : Inv n x y cut (ntakL cs i) ∧ (ntakL cs i).length ≤ cs.length + 1 := by
  refine ⟨h.sub (tak_sub cs i), ?_⟩
  unfold ntakL
  split
  · omega
  · have := List.length_eraseIdx_le cs (natI cs i)
    omega
theorem getD_set_true (cut : List Bool) (i j : Nat) (h : cut.getD j false = true) : (cut.set i true).getD j false = true := by
  rw [List.getD_eq_getElem?_getD, List.getElem?_set] at *
  by_cases e : i = j
  · subst e
    rw [if_pos rfl]
    by_cases hl : i < cut.length
    · rw [if_pos hl]; rfl
    · rw [List.getElem?_eq_none (by omega)] at h
      cases h
  · rw [if_neg e]; exact h
theorem Inv.cut {n x y : Int} {cut : List Bool} {cs : List MX} (h : Inv n x y cut cs) (a b : Int) : Inv n x y (ncutC n cut a b) (ncutL n cut cs a b) ∧ (ncutL n cut cs a b).length ≤ cs.length + 1 := by
  unfold ncutC ncutL
  split
  · refine ⟨⟨?_, fun c hc => ?_⟩, Nat.le_trans (List.length_filter_le _ _) (by omega)⟩
    · have h1 := h.1
      unfold cutB at h1 ⊢
      rw [Bool.and_eq_true] at h1 ⊢
      exact ⟨h1.1, getD_set_true _ _ _ h1.2⟩
    · have := (List.mem_filter.1 hc).2
      simpa using this
  · exact ⟨h, by omega⟩
theorem cut0_getD (j : Nat) : cut0.getD j false = false := by
  unfold cut0
  rw [List.getD_eq_getElem?_getD, List.getElem?_replicate]
  split <;> rfl
theorem Inv.first {n x y : Int} (hp : pairB n x y = true) (h7 : n ≤ 7) : Inv n x y (ncutC n cut0 x y) [] := by
  refine ⟨?_, fun c h => by cases h⟩
  unfold ncutC
  rw [if_pos hp]
  unfold cutB
  rw [hp, Bool.true_and]
  simp only [pairB, Bool.and_eq_true, decide_eq_true_eq] at hp
  have hlt : ixC x y < 49 := by unfold ixC; omega
  rw [List.getD_eq_getElem?_getD, List.getElem?_set_self (by simpa [cut0] using hlt)]
  rfl
section
variable {P : Program} {a : Act} {w0 w : World} {Q : Exit → Act → World → Prop} {L : List Item} {ops : Array Oper} {rest : List Oper} {d : Option Tmp} {ty tt : TypeId} {x y : Operand} {ps : String} {af : Array Edge} {gd : Option (Nat × Bool)} {g : Nat} {n : Int} {cut : List Bool} {cs : List MX} {F Z : List Item}
theorem NetZ.ldo (HN : NetZ w0 w g n cut cs F Z) (h : Region.wanted { dst := d, op := .load ty x, type := tt, pos := ps, after := af, guard := gd } (yielded ops a.tmps) = true ∧ oneT P ty = true ∧ ∃ p, a.eval x = .pointer (some p) ∧
    ∃ v, w0.cell? p = some v ∧ wpList P ops Q rest (a.put d v) w) :
    wpList P ops Q ({ dst := d, op := .load ty x, type := tt, pos := ps, after := af, guard := gd } :: rest) a w := by
  obtain ⟨A, c, fl, h1, h2, h3, h4, H⟩ := HN
  exact H.ldo h
theorem NetZ.ldrO (HN : NetZ w0 w g n cut cs F Z) (h : Region.wanted { dst := d, op := .load ty x, type := tt, pos := ps, after := af, guard := gd } (yielded ops a.tmps) = true ∧ rowT P ty = true ∧ ∃ b off, a.eval x = .pointer (some ⟨b, off, none⟩) ∧
    ∃ vs : List Value, w0.rangeAt b off vs ∧ sizeT P ty = some vs.length ∧ wpList P ops Q rest (a.put d (.agg vs.toArray)) w) :
    wpList P ops Q ({ dst := d, op := .load ty x, type := tt, pos := ps, after := af, guard := gd } :: rest) a w := by
  obtain ⟨A, c, fl, h1, h2, h3, h4, H⟩ := HN
  exact H.ldrO h
theorem wl_ldc (h : Region.wanted { dst := d, op := .load ty x, type := tt, pos := ps, after := af, guard := gd } (yielded ops a.tmps) = true ∧ oneT P ty = true ∧ ∃ p, a.eval x = .pointer (some p) ∧ ∃ v, w.cell? p = some v ∧ wpList P ops Q rest (a.put d v) w) :
    wpList P ops Q ({ dst := d, op := .load ty x, type := tt, pos := ps, after := af, guard := gd } :: rest) a w := by
  obtain ⟨h1, h2, p, h3, v, h4, h5⟩ := h
  exact wl_val _ h1 (by simp [execOp, h3, run_loadAt_cell (P := P) (oneT_c h2) h4]) h5
/-- a field of a message of rows of the call's own -/
theorem NetZ.fld {Ao : Option Addr} {co : Nat} {out : List MX} (HN : NetZ w0 w g n cut cs (mwI Ao co out :: F) Z) {k : Nat} (hk : k < out.length) : ∃ gO, Ao = some ⟨gO, 0, none⟩ ∧ ∀ j v, (mgC out[k].m)[j]? = some v → w.cell? ⟨gO, k * 27 + j, none⟩ = some v := by
  obtain ⟨A, c, fl, h1, h2, h3, h4, H⟩ := HN
  obtain ⟨gO, rfl⟩ := H.rowsA 2 rfl (by omega)
  refine ⟨gO, rfl, fun j v hj => ?_⟩
  have := H.cellR mxC_len 2 rfl k j hk hj
  rwa [Nat.zero_add] at this
theorem NetZ.len (HN : NetZ w0 w g n cut cs F Z) : cs.length ≤ 200 := by
  obtain ⟨A, c, fl, h1, h2, h3, h4, H⟩ := HN
  exact h3
theorem NetZ.tuck {F1 : List Item} (HN : NetZ w0 w g n cut cs (F1 ++ F) Z) : NetZ w0 w g n cut cs F (F1 ++ Z) := by
  obtain ⟨A, c, fl, h1, h2, h3, h4, H⟩ := HN
  refine ⟨A, c, fl, h1, h2.mono (sub_app F1 Z), h3, h4, H.perm (List.Perm.cons _ (List.Perm.cons _ ?_))⟩
  rw [List.append_assoc]
  exact perm_mid F1 F Z
end
/-! the client's message -/
theorem s_nAct : sizeT Tryd.prog 58 = some 30 := by kernel_rfl
end Go.Proofs.YtiieakndjheknaaDoor
