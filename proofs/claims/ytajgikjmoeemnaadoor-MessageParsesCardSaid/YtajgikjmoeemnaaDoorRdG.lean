/-
  BYTES THAT WERE A TEXT: a byte read, a byte written.
-/
import Derived.Test.YtajgikjmoeemnaaDoorPaC
import Derived.Test.YtajgikjmoeemnaaDoorPk2
namespace Go.Proofs.YtajgikjmoeemnaaDoor
set_option maxRecDepth 100000
open Go.RowKit
set_option linter.unusedVariables false
set_option linter.unusedSimpArgs false
def cvL (l : List UInt8) (k : Nat) : Obj := .cells (bvs l ++ List.replicate k (Value.int .u8 0)).toArray 5 (l.length + k, l.length + k + 1)
theorem cvO_L (s : ByteArray) (k : Nat) : cvO s k = cvL s.data.toList k := by
  have h : s.size = s.data.toList.length := rfl
  unfold cvO cvL
  rw [h]
  congr 1
  apply Array.ext'
  simp [bvs]
theorem cvL_cell {w : World} {g : Nat} {l : List UInt8} {k : Nat} (hg : w.heap[g]? = some (cvL l k)) {j : Nat} (hj : j < l.length) : w.cell? ⟨g, j, none⟩ = some (.int .u8 (l[j].toNat : Int)) ∧ w.frozen? ⟨g, j, none⟩ = false := by
  constructor
  · simp [World.cell?, hg, cvL, bvs, List.getElem?_append, hj]
  · simp [World.frozen?, hg, cvL]; omega
theorem Hp.setCvL {w0 w : World} {L : List Item} (H : Hp w0 w L) (i : Nat) {g k : Nat} {l : List UInt8} (hL : L[i]? = some (.obj g (cvL l k))) (j : Nat) (hj : j < l.length) (x : UInt8) :
    Hp w0 (w.setCell ⟨g, j, none⟩ (.int .u8 (x.toNat : Int))) (L.set i (.obj g (cvL (l.set j x) k))) := by
  have hi : i < L.length := (List.getElem?_eq_some_iff.1 hL).1
  have H1 := H.front i hL
  have hfr := (H1.fresh _ List.mem_cons_self g rfl)
  have hg : w.heap[g]? = some (cvL l k) := H1.holds _ List.mem_cons_self
  refine Hp.back i hi (H1.upd (H.below.setCell hfr.1 _) (by simp) ?_ ?_ ?_)
  · intro k hk hne
    exact Below.heap_setCell _ _ _ _ (fun e => hne (by simp [Item.foot, e]))
  · show (w.setCell ⟨g, j, none⟩ (.int .u8 (x.toNat : Int))).heap[g]? = some (cvL (l.set j x) k)
    have e : bvs (l.set j x) = (bvs l).set j (.int .u8 (x.toNat : Int)) := by simp [bvs, List.map_set]
    have hbl : j < (bvs l).length := by simpa [bvs] using hj
    unfold cvL at hg ⊢
    rw [List.length_set, e, ← List.set_append_left _ _ hbl]
    simp [World.setCell, Array.getElem?_modify, hg]
  · intro k hk
    simp [Item.foot] at hk
    subst hk
    exact ⟨.inl rfl, hfr.1, by simpa using hfr.2⟩
section
variable {a : Act} {w0 w : World} {Q : Exit → Act → World → Prop} {L : List Item} {ops : Array Oper} {rest : List Oper} {d : Option Tmp} {tt : TypeId} {ps : String} {af : Array Edge} {gd : Option (Nat × Bool)} {x y : Operand}
theorem Hp.ldC (H : Hp w0 w L) (h : Region.wanted { dst := d, op := .load 5 x, type := tt, pos := ps, after := af, guard := gd } (yielded ops a.tmps) = true ∧ ∃ g off, a.eval x = .pointer (some ⟨g, off, none⟩) ∧
    ∃ i k l, Has L i (.obj g (cvL l k)) ∧ ∃ h : off < l.length, wpList Tryd.prog ops Q rest (a.put d (.int .u8 (l[off].toNat : Int))) w) :
    wpList Tryd.prog ops Q ({ dst := d, op := .load 5 x, type := tt, pos := ps, after := af, guard := gd } :: rest) a w := by
  obtain ⟨h1, g, off, hx, i, k, l, hL, hlt, hk⟩ := h
  have hg : w.heap[g]? = some (cvL l k) := H.holds _ (List.mem_of_getElem? hL.get)
  have := run_loadAt_cell (P := Tryd.prog) (oneT_c c_u8) (cvL_cell hg hlt).1
  exact wl_val _ h1 (by simp [execOp, hx, this]) hk
theorem Hp.stC (H : Hp w0 w L) (h : Region.wanted { dst := d, op := .store 5 x y, type := tt, pos := ps, after := af, guard := gd } (yielded ops a.tmps) = true ∧ ∃ g off, a.eval x = .pointer (some ⟨g, off, none⟩) ∧ ∃ v, a.eval y = .int .u8 v ∧ (0 ≤ v ∧ v < 256) ∧
    ∃ i k l, Has L i (.obj g (cvL l k)) ∧ off < l.length ∧ ∀ (u : UInt8) w', Hp w0 w' (L.set i (.obj g (cvL (l.set off u) k))) → wpList Tryd.prog ops Q rest (a.put d undef) w') :
    wpList Tryd.prog ops Q ({ dst := d, op := .store 5 x y, type := tt, pos := ps, after := af, guard := gd } :: rest) a w := by
  obtain ⟨h1, g, off, hx, v, hy, hv, i, k, l, hL, hlt, hk⟩ := h
  have hu : ((UInt8.ofNat v.toNat).toNat : Int) = v := by
    rw [UInt8.toNat_ofNat']
    omega
  have hg : w.heap[g]? = some (cvL l k) := H.holds _ (List.mem_of_getElem? hL.get)
  have h2 := hk (UInt8.ofNat v.toNat) _ (H.setCvL i hL.get off hlt (UInt8.ofNat v.toNat))
  rw [hu] at h2
  have h3 := run_storeAt_cell (P := Tryd.prog) (v := .int .u8 v) (oneT_s c_u8) (cvL_cell hg hlt).1 (cvL_cell hg hlt).2 rfl
  refine BigFrame.wpList_want h1 fun K hK => ?_
  unfold Oper.wp
  simp [execOp, hx, hy, h3]
  exact hK _ _ h2
end
end Go.Proofs.YtajgikjmoeemnaaDoor
