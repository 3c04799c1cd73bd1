/-
  BYTES OF THE CALL's OWN: a byte read, a byte written.
-/
import Derived.Test.YtanpglhpmfdnmaaHeapK
namespace Go.Proofs.Ytanpglhpmfdnmaa
open Go.RowKit
set_option linter.unusedVariables false
/-- a relation by a name of its own (its blocks need no names) -/
theorem R_of {P : Value → World → Prop} {a : Value} {b : World} (h : P a b) : ∃ R : Value → World → Prop, R = P ∧ R a b := ⟨P, rfl, h⟩
theorem Hp.setB {w0 w : World} {L : List Item} (H : Hp w0 w L) (i : Nat) {g c : Nat} {l : List UInt8} (hL : L[i]? = some (.bytes (some ⟨g, 0, none⟩) c l)) (k : Nat) (x : UInt8) :
    Hp w0 (w.setCell ⟨g, k, none⟩ (.int .u8 (x.toNat : Int))) (L.set i (.bytes (some ⟨g, 0, none⟩) c (l.set k x))) := by
  have hi : i < L.length := (List.getElem?_eq_some_iff.1 hL).1
  have H1 := H.front i hL
  have hfr := (H1.fresh _ List.mem_cons_self g rfl)
  refine Hp.back i hi (H1.upd (H.below.setCell hfr.1 _) (by simp) ?_ ?_ ?_)
  · intro k hk hne
    exact Below.heap_setCell _ _ _ _ (fun e => hne (by simp [Item.foot, e]))
  · exact Own.set (H1.holds _ List.mem_cons_self) k x
  · intro k hk
    simp [Item.foot] at hk
    subst hk
    exact ⟨.inl rfl, hfr.1, by simpa using hfr.2⟩
section
variable {a : Act} {w0 w : World} {Q : Exit → Act → World → Prop} {L : List Item} {ops : Array Oper} {rest : List Oper} {d : Option Tmp} {tt : TypeId} {ps : String} {af : Array Edge} {gd : Option (Nat × Bool)} {x y : Operand}
/-- a byte -/
theorem Hp.ldB (H : Hp w0 w L) (h : Region.wanted { dst := d, op := .load 5 x, type := tt, pos := ps, after := af, guard := gd } (yielded ops a.tmps) = true ∧ ∃ g off, a.eval x = .pointer (some ⟨g, off, none⟩) ∧
    ∃ i c l, Has L i (.bytes (some ⟨g, 0, none⟩) c l) ∧ ∃ h : off < l.length, wpList Try.prog ops Q rest (a.put d (.int .u8 (l[off].toNat : Int))) w) :
    wpList Try.prog ops Q ({ dst := d, op := .load 5 x, type := tt, pos := ps, after := af, guard := gd } :: rest) a w := by
  obtain ⟨h1, g, off, hx, i, c, l, hL, hlt, hk⟩ := h
  have := run_loadAt_cell (P := Try.prog) (oneT_c c_u8) ((H.o i hL.get).cell off hlt)
  exact wl_val _ h1 (by simp [execOp, hx, this]) hk
/-- a byte is stored -/
theorem Hp.stB (H : Hp w0 w L) (h : Region.wanted { dst := d, op := .store 5 x y, type := tt, pos := ps, after := af, guard := gd } (yielded ops a.tmps) = true ∧ ∃ g off, a.eval x = .pointer (some ⟨g, off, none⟩) ∧ ∃ v, a.eval y = .int .u8 v ∧ (0 ≤ v ∧ v < 256) ∧
    ∃ i c l, Has L i (.bytes (some ⟨g, 0, none⟩) c l) ∧ off < l.length ∧ ∀ (u : UInt8) w', Hp w0 w' (L.set i (.bytes (some ⟨g, 0, none⟩) c (l.set off u))) → wpList Try.prog ops Q rest (a.put d undef) w') :
    wpList Try.prog ops Q ({ dst := d, op := .store 5 x y, type := tt, pos := ps, after := af, guard := gd } :: rest) a w := by
  obtain ⟨h1, g, off, hx, v, hy, hv, i, c, l, hL, hlt, hk⟩ := h
  have hu : ((UInt8.ofNat v.toNat).toNat : Int) = v := by
    rw [UInt8.toNat_ofNat']
    omega
  have h2 := hk (UInt8.ofNat v.toNat) _ (H.setB i hL.get off (UInt8.ofNat v.toNat))
  rw [hu] at h2
  have h3 := run_storeAt_cell (P := Try.prog) (v := .int .u8 v) (oneT_s c_u8) ((H.o i hL.get).cell off hlt) ((H.o i hL.get).frozen off) rfl
  refine BigFrame.wpList_want h1 fun K hK => ?_
  unfold Oper.wp
  simp [execOp, hx, hy, h3]
  exact hK _ _ h2
end
end Go.Proofs.Ytanpglhpmfdnmaa
