/-
  MORE OF THE SMALL HEAP: a region that draws its order, by hand: what only reads is taken first, in whatever world holds these items; the rest one by one.
-/
import Derived.Test.YtanpglhpmfdnmaaHeapC
import Derived.Deep.RegionHeld3
namespace Go.Proofs.Ytanpglhpmfdnmaa
open Go.RowKit
set_option linter.unusedVariables false
/-- these items, and whatever else -/
def HpW (w0 : World) (L0 : List Item) (w' : World) : Prop := ∃ L', Hp w0 w' (L' ++ L0)
/-- some of the items, in whatever order -/
theorem Hp.pick {w0 w : World} {L L' : List Item} (H : Hp w0 w L) (is : List Nat) (hn : is.Nodup) (h : is.map (fun i => L[i]?) = L'.map some) : Hp w0 w L' := by
  have hlen : is.length = L'.length := by have := congrArg List.length h; simpa using this
  have hget : ∀ i (hi : i < L'.length), L[is[i]'(by omega)]? = some L'[i] := fun i hi => by
    have := congrArg (fun l => l[i]?) h
    simp only [List.getElem?_map] at this
    rw [List.getElem?_eq_getElem (by omega), List.getElem?_eq_getElem hi] at this
    simpa using this
  have hmem : ∀ x ∈ L', x ∈ L := fun x hx => by
    obtain ⟨i, hi, rfl⟩ := List.getElem_of_mem hx
    exact List.mem_of_getElem? (hget i hi)
  refine ⟨H.below, fun x hx => H.holds x (hmem x hx), fun x hx => H.fresh x (hmem x hx), List.pairwise_iff_getElem.2 fun i j hi hj hij => ?_⟩
  have h1 := hget i hi
  have h2 := hget j hj
  obtain ⟨a1, e1⟩ := List.getElem?_eq_some_iff.1 h1
  obtain ⟨a2, e2⟩ := List.getElem?_eq_some_iff.1 h2
  rw [← e1, ← e2]
  have hne : is[i]'(by omega) ≠ is[j]'(by omega) := List.pairwise_iff_getElem.1 hn i j (by omega) (by omega) hij
  rcases Nat.lt_or_gt_of_ne hne with hlt | hlt
  · exact List.pairwise_iff_getElem.1 H.apart _ _ a1 a2 hlt
  · exact (List.pairwise_iff_getElem.1 H.apart _ _ a2 a1 hlt).symm
section
variable {P : Program} {md : Region.Mode} {a : Act} {w0 w : World} {Q : Exit → Act → World → Prop} {L L0 : List Item} {ops : List Oper} {fuel : Nat} {listed : Array Bool}
theorem HpW.i {L0 : List Item} {w' : World} {i : Nat} {x : Item} (hx : Has L0 i x) (L' : List Item) : Has (L' ++ L0) (i + L'.length) x := by
  induction L' with
  | nil => exact hx
  | cons y L' ih => exact .s ih
theorem hw_start (L1 L0 : List Item) (H : Hp w0 w (L1 ++ L0)) {id : Nat} {l : List Oper} (hm : P.follows .mixedOrders = true) (h : ∀ w', Hp w0 w' (L1 ++ L0) → wpAnyH P .any l.toArray Q (HpW w0 L0) l.length (Array.replicate l.length false) a w') : (Code.region id l.toArray true).wp P Q a w :=
  wp_region_held_drew (S := HpW w0 L0) hm ⟨L1, H.drew⟩ (fun hh => by
    have := h _ H.drew
    simpa using this)
theorem hw_take (hS : HpW w0 L0 w) (i : Nat) (hs : Region.noSelect ops.toArray = true) (hf : Region.free md ops.toArray listed i = true) (hr : (Region.ready md ops.toArray listed).contains i = true)
    (h : ∃ oi, ops[i]? = some oi ∧ Region.wanted oi (yielded ops.toArray a.tmps) = true ∧ ∃ v, (∀ w, HpW w0 L0 w → (execOp a.eval oi).run P w = .ok (.value v) w) ∧ (∀ c a w, Q (.panic c) (a.put oi.dst v) w → Q (.panic c) a w) ∧ wpAnyH P md ops.toArray Q (HpW w0 L0) fuel (listed.setIfInBounds i true) (a.put oi.dst v) w) : wpAnyH P md ops.toArray Q (HpW w0 L0) (fuel + 1) listed a w := by
  obtain ⟨oi, h1, h2, v, h3, hQ, h4⟩ := h
  exact wpAnyH_take (by simpa using h1) hs hf hr hQ (Or.inl ⟨h2, h3⟩) hS h4
theorem hw_lda {ty : TypeId} {g : Nat} (hc : rowT P ty = true) {n : Nat} (hn : sizeT P ty = some n) {i : Nat} {t : TypeId} {cs : List Value} (hL : Has L0 i (.blk g t cs)) (hl : cs.length = n) :
    ∀ w, HpW w0 L0 w → (Instr.loadAt ty (.pointer (some ⟨g, 0, none⟩))).run P w = .ok (.agg cs.toArray) w := by
  rintro w ⟨L', H⟩
  exact run_loadAt_row hc (by rw [hl]; exact hn) (H.range _ (HpW.i (w' := w) hL L').get 0 n (by rw [List.drop_zero, ← hl, List.take_length]))
/-- one that may come up comes up: the operation, from this world on -/
theorem hw_one (i : Nat) (hr : Region.ready md ops.toArray listed = [i]) (h : ∃ oi, ops[i]? = some oi ∧ Region.wanted oi (yielded ops.toArray a.tmps) = true ∧
      ∀ K : Act → World → Prop, (∀ a w, HpW w0 L0 w → wpAnyH P md ops.toArray Q (HpW w0 L0) fuel (listed.setIfInBounds i true) a w → K a w) → oi.wp P a w K Q) : wpAnyH P md ops.toArray Q (HpW w0 L0) (fuel + 1) listed a w := by
  obtain ⟨oi, h1, h2, h3⟩ := h
  refine wpAnyH_ready (rs := [i]) hr (by simp) (AllReadyH.cons (by simpa using h1) (fun K hK => ?_) AllReadyH.nil)
  rw [if_pos h2]
  exact h3 K fun a w hS hW => hK.out a w hS (fun _ => hW)
theorem hw_two (i j : Nat) (hr : Region.ready md ops.toArray listed = [i, j])
    (h : ∃ oi, ops[i]? = some oi ∧ Region.wanted oi (yielded ops.toArray a.tmps) = true ∧ ∀ K : Act → World → Prop, (∀ a w, HpW w0 L0 w → wpAnyH P md ops.toArray Q (HpW w0 L0) fuel (listed.setIfInBounds i true) a w → K a w) → oi.wp P a w K Q)
    (h' : ∃ oi, ops[j]? = some oi ∧ Region.wanted oi (yielded ops.toArray a.tmps) = true ∧ ∀ K : Act → World → Prop, (∀ a w, HpW w0 L0 w → wpAnyH P md ops.toArray Q (HpW w0 L0) fuel (listed.setIfInBounds j true) a w → K a w) → oi.wp P a w K Q) : wpAnyH P md ops.toArray Q (HpW w0 L0) (fuel + 1) listed a w := by
  obtain ⟨oi, h1, h2, h3⟩ := h
  obtain ⟨oj, k1, k2, k3⟩ := h'
  refine wpAnyH_ready (rs := [i, j]) hr (by simp) (AllReadyH.cons (by simpa using h1) (fun K hK => ?_) (AllReadyH.cons (by simpa using k1) (fun K hK => ?_) AllReadyH.nil))
  · rw [if_pos h2]
    exact h3 K fun a w hS hW => hK.out a w hS (fun _ => hW)
  · rw [if_pos k2]
    exact k3 K fun a w hS hW => hK.out a w hS (fun _ => hW)
/-- a call -/
theorem hw_call {oi : Oper} {K : Act → World → Prop} {f : FuncId} {args : Array Value} (he : (execOp a.eval oi).run P w = .ok (.enter f args) w) {post : Ending → World → Prop} (hc : Calls P f args w post)
    (h : ∀ e w', post e w' → ∃ v, e = .returned v ∧ K (a.put oi.dst v) w') : oi.wp P a w K Q := by
  unfold Oper.wp
  rw [he]
  exact hc.mono fun e w' hp => by
    obtain ⟨v, rfl, hk⟩ := h e w' hp
    exact hk
theorem hw_sta {oi : Oper} {K : Act → World → Prop} {ty : TypeId} {x y : Operand} {g : Nat} {vs : List Value} (ho : oi.op = .store ty x y) (hx : a.eval x = .pointer (some ⟨g, 0, none⟩)) (hy : a.eval y = .agg vs.toArray) (H : Hp w0 w L) {n : Nat} (hn : sizeT P ty = some n) {i : Nat} {t : TypeId} {cs : List Value} (hL : Has L i (.blk g t cs)) (hl : cs.length = n) (hv : vs.length = n) (h1 : vs.all (·.oneCell') = true)
    (h : ∀ w', Hp w0 w' (L.set i (.blk g t vs)) → K (a.put oi.dst undef) w') : oi.wp P a w K Q := by
  subst hv
  have h3 := H.setRange i hL.get 0 vs (by omega)
  rw [List.take_zero, List.nil_append, Nat.zero_add, show cs.drop vs.length = [] by rw [← hl, List.drop_length], List.append_nil] at h3
  have h2 := run_storeAt_mid (P := P) w g 0 ty vs.toArray (H.there i hL.get 0 _ (by simp; omega)) (by rw [List.size_toArray]; exact hn) (by simpa using h1)
  have h4 := h _ h3
  unfold Oper.wp
  simp [execOp, ho, hx, hy, h2]
  exact h4
theorem hw_ld {ty : TypeId} {g off : Nat} (hc : oneT P ty = true) {i : Nat} {t : TypeId} {cs : List Value} (hL : Has L0 i (.blk g t cs)) {v : Value} (hv : cs[off]? = some v) :
    ∀ w, HpW w0 L0 w → (Instr.loadAt ty (.pointer (some ⟨g, off, none⟩))).run P w = .ok v w := by
  rintro w ⟨L', H⟩
  exact run_loadAt_cell (oneT_c hc) (H.c _ (HpW.i (w' := w) hL L').get off hv)
theorem hw_lds {ty : TypeId} {g off : Nat} (hc : rowT P ty = true) {n : Nat} (hn : sizeT P ty = some n) {i : Nat} {t : TypeId} {cs : List Value} (hL : Has L0 i (.blk g t cs)) {vs : List Value} (hv : (cs.drop off).take n = vs) (hl : vs.length = n) :
    ∀ w, HpW w0 L0 w → (Instr.loadAt ty (.pointer (some ⟨g, off, none⟩))).run P w = .ok (.agg vs.toArray) w := by
  rintro w ⟨L', H⟩
  exact run_loadAt_row hc (by rw [hl]; exact hn) (H.range _ (HpW.i (w' := w) hL L').get off n hv)
end
theorem ex_build {P : Program} {a : Act} {oi : Oper} {w : World} {t : TypeId} {parts : Array (Nat × Operand)} {cells : Array Value} (ho : oi.op = .build t parts) (h : P.built t (parts.toList.map fun x => (x.1, a.eval x.2)) = some cells) : (execOp a.eval oi).run P w = .ok (.value (.agg cells)) w := by
  have := run_build (P := P) w t (parts.map fun x => (x.1, a.eval x.2)) cells (by simpa using h)
  simp [execOp, ho, this]
theorem ex_load {P : Program} {a : Act} {oi : Oper} {w : World} {ty : TypeId} {x : Operand} {p v : Value} (ho : oi.op = .load ty x) (hx : a.eval x = p) (h : (Instr.loadAt ty p).run P w = .ok v w) : (execOp a.eval oi).run P w = .ok (.value v) w := by
  simp [execOp, ho, hx, h]
end Go.Proofs.Ytanpglhpmfdnmaa
