/-
  ROWS OF STRUCTS OF THE CALL's OWN: one is built, one is appended, one is read.
-/
import Derived.Test.YtanpglhpmfdnmaaHeapL
namespace Go.Proofs.Ytanpglhpmfdnmaa
open Go.RowKit
set_option linter.unusedVariables false
theorem fold_set : ∀ (vs : List Value) (k : Nat) (cells : List Value), k + vs.length ≤ cells.length → (vs.zipIdx k).foldl (fun (cs : Array Value) (x : Value × Nat) => cs.setIfInBounds (0 + x.2) x.1) cells.toArray = (cells.take k ++ vs ++ cells.drop (k + vs.length)).toArray
  | [], k, cells, _ => by simp
  | v :: vs, k, cells, h => by
    simp only [List.length_cons] at h
    have ih := fold_set vs (k + 1) (cells.set k v) (by rw [List.length_set]; omega)
    rw [List.zipIdx_cons, List.foldl_cons]
    simp only [Nat.zero_add, List.setIfInBounds_toArray] at ih ⊢
    rw [ih]
    congr 1
    rw [List.drop_set, if_pos (by omega), List.take_set, List.length_cons]
    have h2 : (cells.take (k + 1)).set k v = cells.take k ++ [v] := by
      rw [List.take_succ_eq_append_getElem (by omega), List.set_append_right _ _ (by simp; omega)]
      simp [Nat.min_eq_left (show k ≤ cells.length by omega)]
    rw [h2, show k + 1 + vs.length = k + (vs.length + 1) by omega]
    simp
theorem fill_one (vs cells : List Value) (n : Nat) (hl : vs.length = n) (hc : cells.length = n) : Instr.fill (fun i => some (i * n, n)) cells.toArray [(0, .agg vs.toArray)] = some vs.toArray := by
  have h := fold_set vs 0 cells (by omega)
  rw [List.take_zero, List.nil_append, Nat.zero_add, hl, ← hc, List.drop_length, List.append_nil] at h
  unfold Instr.fill
  simp only [Nat.zero_mul, Value.cells, List.size_toArray, hl, hc, Nat.zero_add]
  simp only [ne_eq, not_true_eq_false, decide_false, Bool.false_or, Nat.lt_irrefl, gt_iff_lt, if_false, Bool.false_eq_true]
  unfold Instr.fill
  simp only [Nat.zero_add] at h
  rw [← Array.foldl_toList, Array.toList_zipIdx, List.toList_toArray, h]
theorem run_bsl1 {P : Program} {t e : TypeId} {i : TypeInfo} {z : Value} {n : Nat} (w : World) (ht : P.underlying t = some (.slice e)) (hi : P.info? e = some i) (hz : i.zero = some z) (hs : i.size = n) (hn : n ≤ 1000) (hn0 : 0 < n) (vs : List Value) (hl : vs.length = n) :
    (Instr.buildSlice t 1 #[(0, .agg vs.toArray)]).run P w = .ok (.slice (some ⟨w.heap.size, 0, none⟩) 1 1) (w.alloc (.cells vs.toArray e)) := by
  have h1 : ¬ (16777216 < n) := by omega
  have h0 : ¬ (n = 0) := by omega
  have hf := fill_one vs ((Array.range n).map (fun k => z.cells[k % z.cells.size]!)).toList n hl (by simp)
  rw [Array.toArray_toList] at hf
  unfold Instr.buildSlice
  simp [run_underlying ht, sizeOf, typeInfo, hi, hs, zeroValue, hz, h1, h0, newRow, hf]
section
variable {P : Program} {a : Act} {w0 w : World} {Q : Exit → Act → World → Prop} {L : List Item} {ops : Array Oper} {rest : List Oper} {d : Option Tmp} {tt t e : TypeId} {ps : String} {af : Array Edge} {gd : Option (Nat × Bool)} {x y : Operand}
theorem ex_bsl1 {oi : Oper} {n : Nat} (ho : oi.op = .buildSlice t 1 #[(0, x)]) (ht : P.underlying t = some (.slice e)) (hi : (P.info? e).map (fun i => (i.zero.isSome, i.size)) = some (true, n)) (hn : n ≤ 1000) (hn0 : 0 < n) {vs : List Value} (hx : a.eval x = .agg vs.toArray) (hl : vs.length = n) :
    (execOp a.eval oi).run P w = .ok (.value (.slice (some ⟨w.heap.size, 0, none⟩) 1 1)) (w.alloc (.cells vs.toArray e)) := by
  cases hq : P.info? e with
  | none => rw [hq] at hi; cases hi
  | some i =>
    rw [hq] at hi
    simp only [Option.map_some, Option.some.injEq, Prod.mk.injEq] at hi
    obtain ⟨z, hz⟩ := Option.isSome_iff_exists.1 hi.1
    have := run_bsl1 (P := P) w ht hq hz hi.2 hn hn0 vs hl
    simp [execOp, ho, hx, this]
/-- a slice of one struct -/
theorem Hp.bsl1 (H : Hp w0 w L) {n : Nat} (ht : P.underlying t = some (.slice e)) (hi : (P.info? e).map (fun i => (i.zero.isSome, i.size)) = some (true, n)) (hn : Nat.ble n 1000 = true) (hn0 : Nat.ble 1 n = true)
    (h : Region.wanted { dst := d, op := .buildSlice t 1 #[(0, x)], type := tt, pos := ps, after := af, guard := gd } (yielded ops a.tmps) = true ∧ ∃ vs : List Value, a.eval x = .agg vs.toArray ∧ vs.length = n ∧
    ∀ g w', Hp w0 w' (.blk g e vs :: L) → wpList P ops Q rest (a.put d (.slice (some ⟨g, 0, none⟩) 1 1)) w') :
    wpList P ops Q ({ dst := d, op := .buildSlice t 1 #[(0, x)], type := tt, pos := ps, after := af, guard := gd } :: rest) a w := by
  obtain ⟨h1, vs, hx, hl, hk⟩ := h
  have he := ex_bsl1 (P := P) (a := a) (w := w) (oi := { dst := d, op := .buildSlice t 1 #[(0, x)], type := tt, pos := ps, after := af, guard := gd }) rfl ht hi (Nat.le_of_ble_eq_true hn) (Nat.le_of_ble_eq_true hn0) hx hl
  refine BigFrame.wpList_want h1 fun K hK => ?_
  unfold Oper.wp
  rw [he]
  exact hK _ _ (hk _ _ (H.alloc _ _))
end
/-- rows one behind the other -/
def rowsC {α : Type} (f : α → List Value) (l : List α) : List Value := (l.map f).flatten
theorem rowsC_len {α : Type} {f : α → List Value} {n : Nat} (hf : ∀ x, (f x).length = n) : ∀ l : List α, (rowsC f l).length = l.length * n
  | [] => by simp [rowsC]
  | x :: l => by
    have := rowsC_len hf l
    unfold rowsC at this ⊢
    rw [List.map_cons, List.flatten_cons, List.length_append, hf, this, List.length_cons, Nat.add_mul]
    omega
theorem rowsC_get {α : Type} {f : α → List Value} {n : Nat} (hf : ∀ x, (f x).length = n) : ∀ (l : List α) (i j : Nat) (hi : i < l.length), j < n → (rowsC f l)[i * n + j]? = (f l[i])[j]?
  | [], i, j, hi, _ => by simp at hi
  | x :: l, i, j, hi, hj => by
    unfold rowsC
    rw [List.map_cons, List.flatten_cons]
    cases i with
    | zero =>
      rw [List.getElem?_append_left (by rw [hf]; omega)]
      simp
    | succ i =>
      rw [List.getElem?_append_right (by rw [hf, Nat.add_mul]; omega), hf, show (i + 1) * n + j - n = i * n + j by rw [Nat.add_mul]; omega]
      exact rowsC_get hf l i j (by simpa using hi) hj
theorem rowsC_snoc {α : Type} {f : α → List Value} (l : List α) (x : α) : rowsC f (l ++ [x]) = rowsC f l ++ f x := by simp [rowsC]
theorem rowsC_append {α : Type} {f : α → List Value} (l m : List α) : rowsC f (l ++ m) = rowsC f l ++ rowsC f m := by simp [rowsC]
/-- a slice that reads as these rows of n cells -/
def RdR {α : Type} (f : α → List Value) (n : Nat) (w : World) (A : Option Addr) (l : List α) : Prop := l ≠ [] → ∃ b o, A = some ⟨b, o, none⟩ ∧ ∀ (i : Nat) (h : i < l.length), w.rangeAt b (o + i * n) (f l[i])
theorem RdR.nil {α : Type} (f : α → List Value) (n : Nat) (w : World) (A : Option Addr) : RdR f n w A [] := fun h => absurd rfl h
theorem RdR.at_ {α : Type} {f : α → List Value} {n : Nat} {w : World} {A : Option Addr} {l : List α} (h : RdR f n w A l) {i : Nat} (hi : i < l.length) : ∃ b o, A = some ⟨b, o, none⟩ ∧ ∀ (i : Nat) (h : i < l.length), w.rangeAt b (o + i * n) (f l[i]) := h (fun e => by subst e; simp at hi)
theorem RdR.below {α : Type} {f : α → List Value} {n : Nat} {w w' : World} {A : Option Addr} {l : List α} (h : RdR f n w A l) (hb : Below w.heap.size w w') : RdR f n w' A l := by
  intro hn
  obtain ⟨b, o, e, hc⟩ := h hn
  exact ⟨b, o, e, fun i hi j v hj => (hb.cell (World.block_lt_of_cell? w _ (hc i hi j v hj))).trans (hc i hi j v hj)⟩
theorem World.ownsRow.rdR {α : Type} {f : α → List Value} {n : Nat} (hf : ∀ x, (f x).length = n) {w : World} {base : Nat} {e : TypeId} {A : Option Addr} {c : Nat} {l : List α} (h : w.ownsRow base e n (.slice A l.length c) l.length (rowsC f l)) : RdR f n w A l := by
  intro hn
  have hpos : 0 < l.length := List.length_pos_iff.2 hn
  obtain ⟨g, cap, hv, _, _⟩ := World.ownsRow.form h hpos
  injection hv with hA
  subst hA
  refine ⟨g, 0, rfl, fun i hi j v hj => ?_⟩
  have hjn : j < n := by have := (List.getElem?_eq_some_iff.1 hj).1; rwa [hf] at this
  have := World.ownsRow.cells h (g := g) rfl (i * n + j) v (by rw [rowsC_get hf l i j hi hjn]; exact hj)
  rw [Addr.add_lit] at this
  rw [Nat.add_assoc]
  exact this
/-- new rows of the call's own -/
abbrev Item.rows {α : Type} (e : TypeId) (n : Nat) (f : α → List Value) (A : Option Addr) (c : Nat) (l : List α) : Item := .own e n A l.length c (rowsC f l)
theorem Hp.rd {α : Type} {f : α → List Value} {n : Nat} (hf : ∀ x, (f x).length = n) {w0 w : World} {L : List Item} (H : Hp w0 w L) (i : Nat) {e : TypeId} {A : Option Addr} {c : Nat} {l : List α} (hL : L[i]? = some (.rows e n f A c l)) : RdR f n w A l :=
  World.ownsRow.rdR hf (H.holds _ (List.mem_of_getElem? hL))
theorem Hp.nilRow {w0 w : World} {L : List Item} (H : Hp w0 w L) (e : TypeId) (n : Nat) : Hp w0 w (.own e n none 0 0 [] :: L) := by
  refine ⟨H.below, ?_, ?_, ?_⟩
  · intro x hx
    rcases List.mem_cons.1 hx with rfl | hx
    · exact World.ownsRow_nil w _ _ _
    · exact H.holds x hx
  · intro x hx k hk
    rcases List.mem_cons.1 hx with rfl | hx
    · cases hk
    · exact H.fresh x hx k hk
  · exact List.pairwise_cons.2 ⟨fun y hy k hk => (by cases hk), H.apart⟩
theorem Hp.callRow {w0 w w' : World} {L : List Item} (H : Hp w0 w L) (hb : Below w.heap.size w w') {e : TypeId} {size n : Nat} {A : Option Addr} {c : Nat} {xs : List Value} (ho : w'.ownsRow w.heap.size e size (.slice A n c) n xs) : Hp w0 w' (.own e size A n c xs :: L) := by
  have ho2 : w'.ownsRow w0.heap.size e size (.slice A n c) n xs := by
    refine ⟨ho.1, ?_⟩
    rcases ho.2 with hn | ⟨g, cap, cur, hv, hbb, r⟩
    · exact .inl hn
    · exact .inr ⟨g, cap, cur, hv, by have := H.size; omega, r⟩
  refine H.new (H.below.trans (hb.mono H.size)) hb.size (fun k hk => hb.block k hk) ho2 (fun k hk => ?_)
  exact ownsRow_foot ho k (by simpa [Item.foot] using hk)
/-- one row appended -/
theorem Hp.appRow {w0 w : World} {L : List Item} (H : Hp w0 w L) {t e : TypeId} {size bytes : Nat} {z : Value} (ht : Try.prog.underlying t = some (.slice e)) (hi : (Try.prog.info? e).map (fun i => (i.zero, i.size, i.bytes)) = some (some z, size, bytes)) (hz : z.cells.size = size) (hs0 : 0 < size) (hby : bytes ≤ 1000)
    (ty : TypeId) (i : Nat) {A : Option Addr} {n c : Nat} {xs : List Value} (hL : L[i]? = some (.own e size A n c xs)) (j : Nat) {g : Nat} {e2 : TypeId} {vs : List Value} (hj : L[j]? = some (.blk g e2 vs)) (hl : vs.length = size) (h1 : ∀ u ∈ vs, u.oneCell' = true) (hn : n ≤ 1000000) (c2 : Nat) :
    ∃ A' c' w', (Builtin.append_ #[t, t] ty #[.slice A n c, .slice (some ⟨g, 0, none⟩) 1 c2]).run Try.prog w = .ok (.slice A' (n + 1) c') w' ∧ Hp w0 w' (L.set i (.own e size A' (n + 1) c' (xs ++ vs))) := by
  obtain ⟨ti, hti, hz0, hz1, hz2⟩ := info_parts hi
  refine H.appendRun i hL t ty ti z bytes ht hti hz0 hz1 hz2 hz hs0 ⟨g, 0, none⟩ 1 c2 vs (by rw [hl, Nat.one_mul]) ?_ h1 (by have := le_maxLen; omega) ?_ (by omega)
  · intro k u hk
    rw [Addr.add_lit, Nat.zero_add]
    exact H.c j hj k hk
  · have : (n + 1) * bytes ≤ 1000001 * 1000 := Nat.mul_le_mul (by omega) hby
    omega
theorem ex_app {a : Act} {oi : Oper} {s x : Operand} {t u2 : TypeId} {u v r : Value} {w w' : World} (ho : oi.op = .call { callee := .builtin .append, args := #[s, x], argTypes := #[t, u2] }) (hs : a.eval s = u) (hx : a.eval x = v)
    (h : (Builtin.append_ #[t, u2] oi.type #[u, v]).run Try.prog w = .ok r w') : (execOp a.eval oi).run Try.prog w = .ok (.value r) w' := by
  subst hs hx
  unfold execOp
  simp only [ho, resolve, invoke, builtin, Sem.run_bind, Sem.run_pure, Result.andThen_ok, List.map_toArray, List.map_cons, List.map_nil, h]
section
variable {a : Act} {w0 w : World} {Q : Exit → Act → World → Prop} {L : List Item} {ops : Array Oper} {rest : List Oper} {d : Option Tmp} {tt t e : TypeId} {ps : String} {af : Array Edge} {x s : Operand}
/-- one row appended: the walk's step -/
theorem Hp.wlAppRow (H : Hp w0 w L) {size bytes : Nat} {z : Value} (ht : Try.prog.underlying t = some (.slice e)) (hi : (Try.prog.info? e).map (fun i => (i.zero, i.size, i.bytes)) = some (some z, size, bytes)) (hz : z.cells.size = size) (hs0 : Nat.ble 1 size = true) (hby : Nat.ble bytes 1000 = true)
    (h : ∃ (i : Nat) (A : Option Addr) (n c : Nat) (xs : List Value), a.eval s = .slice A n c ∧ L[i]? = some (.own e size A n c xs) ∧ ∃ (j g : Nat) (e2 : TypeId) (c2 : Nat) (vs : List Value), a.eval x = .slice (some ⟨g, 0, none⟩) 1 c2 ∧ L[j]? = some (.blk g e2 vs) ∧ vs.length = size ∧ (∀ u ∈ vs, u.oneCell' = true) ∧ n ≤ 1000000 ∧
      ∀ A' c' w', Hp w0 w' (L.set i (.own e size A' (n + 1) c' (xs ++ vs))) → wpList Try.prog ops Q rest (a.put d (.slice A' (n + 1) c')) w') :
    wpList Try.prog ops Q ({ dst := d, op := .call { callee := .builtin .append, args := #[s, x], argTypes := #[t, t] }, type := tt, pos := ps, after := af, guard := none } :: rest) a w := by
  obtain ⟨i, A, n, c, xs, hs, hL, j, g, e2, c2, vs, hx, hj, hl, h1, hn, hk⟩ := h
  obtain ⟨A', c', w', hrun, hH⟩ := H.appRow ht hi hz (Nat.le_of_ble_eq_true hs0) (Nat.le_of_ble_eq_true hby) tt i hL j hj hl h1 hn c2
  refine wpList_plain rfl fun K hK => ?_
  have := ex_app (a := a) (oi := { dst := d, op := .call { callee := .builtin .append, args := #[s, x], argTypes := #[t, t] }, type := tt, pos := ps, after := af, guard := none }) rfl hs hx hrun
  unfold Oper.wp
  rw [this]
  exact hK _ _ (hk A' c' w' hH)
end
section
variable {P : Program} {a : Act} {w0 w : World} {Q : Exit → Act → World → Prop} {L L0 : List Item} {t e : TypeId} {x s : Operand}
theorem hw_ldo {ty : TypeId} (hc : oneT P ty = true) {p : Addr} {v : Value} (h : w0.cell? p = some v) : ∀ w, HpW w0 L0 w → (Instr.loadAt ty (.pointer (some p))).run P w = .ok v w := by
  rintro w ⟨L', H⟩
  exact run_loadAt_cell (oneT_c hc) (H.old h)
theorem hw_ldrO {ty : TypeId} (hc : rowT P ty = true) {b off : Nat} {vs : List Value} (h : w0.rangeAt b off vs) (hn : sizeT P ty = some vs.length) : ∀ w, HpW w0 L0 w → (Instr.loadAt ty (.pointer (some ⟨b, off, none⟩))).run P w = .ok (.agg vs.toArray) w := by
  rintro w ⟨L', H⟩
  exact run_loadAt_row hc hn (fun j v hj => H.old (h j v hj))
theorem ex_idx {oi : Oper} {ix : Operand} {w : World} {b o n c s i : Nat} {k : IntKind} {I : Int} (ho : oi.op = .indexAddr t x ix) (ht : P.underlying t = some (.slice e)) (hs : sizeT P e = some s) (hx : a.eval x = .slice (some ⟨b, o, none⟩) n c) (hi : a.eval ix = .int k I) (hI : I = (i : Int)) (hlt : i < n) :
    (execOp a.eval oi).run P w = .ok (.value (.pointer (some ⟨b, o + i * s, none⟩))) w := by
  subst hI
  have h1 : ¬ ((i : Int) < 0) := by omega
  have h2 : (i : Int) < (n : Int) := by omega
  unfold sizeT at hs
  cases hq : P.info? e with
  | none => rw [hq] at hs; cases hs
  | some ti =>
    rw [hq] at hs
    simp only [Option.map_some, Option.some.injEq] at hs
    have hst : ((sizeOf e).run P w) = .ok s w := by simp [sizeOf, typeInfo, hq, hs]
    have hE : P.elem t = e := by simp [Program.elem, ht]
    have := run_indexAt_slice (P := P) (w := w) t ⟨b, o, none⟩ n c k (i : Int) (by rw [hE]; exact ht)
    rw [if_pos ⟨by omega, h2⟩, hE, hst] at this
    simp [execOp, ho, hx, hi, this, Addr.add_lit]
/-- a slice of one struct, in a drawn region -/
theorem hw_bsl1 {oi : Oper} {K : Act → World → Prop} {n : Nat} {vs : List Value} (ho : oi.op = .buildSlice t 1 #[(0, x)]) (ht : P.underlying t = some (.slice e)) (hi : (P.info? e).map (fun i => (i.zero.isSome, i.size)) = some (true, n)) (hn : Nat.ble n 1000 = true) (hn0 : Nat.ble 1 n = true) (hx : a.eval x = .agg vs.toArray) (hl : vs.length = n) (H : Hp w0 w L)
    (h : ∀ g w', Hp w0 w' (.blk g e vs :: L) → K (a.put oi.dst (.slice (some ⟨g, 0, none⟩) 1 1)) w') : oi.wp P a w K Q :=
  hw_turn (ex_bsl1 ho ht hi (Nat.le_of_ble_eq_true hn) (Nat.le_of_ble_eq_true hn0) hx hl) (h _ _ (H.alloc _ _))
/-- one row appended, in a drawn region -/
theorem hw_appRow {oi : Oper} {K : Act → World → Prop} {size bytes : Nat} {z : Value} {A : Option Addr} {n c : Nat} {xs : List Value} {g c2 : Nat} {e2 : TypeId} {vs : List Value} (ho : oi.op = .call { callee := .builtin .append, args := #[s, x], argTypes := #[t, t] }) (hs : a.eval s = .slice A n c) (hx : a.eval x = .slice (some ⟨g, 0, none⟩) 1 c2)
    (ht : Try.prog.underlying t = some (.slice e)) (hi : (Try.prog.info? e).map (fun i => (i.zero, i.size, i.bytes)) = some (some z, size, bytes)) (hz : z.cells.size = size) (hs0 : Nat.ble 1 size = true) (hby : Nat.ble bytes 1000 = true) (H : Hp w0 w L) (i j : Nat) (hL : L[i]? = some (.own e size A n c xs)) (hj : L[j]? = some (.blk g e2 vs)) (hl : vs.length = size) (h1 : ∀ u ∈ vs, u.oneCell' = true) (hn : n ≤ 1000000)
    (h : ∀ A' c' w', Hp w0 w' (L.set i (.own e size A' (n + 1) c' (xs ++ vs))) → K (a.put oi.dst (.slice A' (n + 1) c')) w') : oi.wp Try.prog a w K Q := by
  obtain ⟨A', c', w', hrun, hH⟩ := H.appRow ht hi hz (Nat.le_of_ble_eq_true hs0) (Nat.le_of_ble_eq_true hby) oi.type i hL j hj hl h1 hn c2
  exact hw_turn (ex_app ho hs hx hrun) (h _ _ _ hH)
end
/-- rows of a slice that came in, or of whatever can be read, appended -/
theorem Hp.appRd {α : Type} {f : α → List Value} {w0 w : World} {L : List Item} (H : Hp w0 w L) {t e : TypeId} {size bytes : Nat} {z : Value} (hf : ∀ x, (f x).length = size) (h1 : ∀ x, ∀ u ∈ f x, u.oneCell' = true) (ht : Try.prog.underlying t = some (.slice e)) (hi : (Try.prog.info? e).map (fun i => (i.zero, i.size, i.bytes)) = some (some z, size, bytes)) (hz : z.cells.size = size) (hs0 : 0 < size) (hby : bytes ≤ 1000)
    (ty : TypeId) (i : Nat) {A : Option Addr} {n c : Nat} {xs : List Value} (hL : L[i]? = some (.own e size A n c xs)) (A2 : Option Addr) (c2 : Nat) (l : List α) (hr : RdR f size w A2 l) (hn : n ≤ 1000000) (hl : l.length ≤ 1000000) :
    ∃ A' c' w', (Builtin.append_ #[t, t] ty #[.slice A n c, .slice A2 l.length c2]).run Try.prog w = .ok (.slice A' (n + l.length) c') w' ∧ Hp w0 w' (L.set i (.own e size A' (n + l.length) c' (xs ++ rowsC f l))) := by
  obtain ⟨ti, hti, hz0, hz1, hz2⟩ := info_parts hi
  have hown : w.ownsRow w0.heap.size e size (.slice A n c) n xs := H.holds _ (List.mem_of_getElem? hL)
  by_cases h0 : l = []
  · subst h0
    have hLe : L.set i (.own e size A n c xs) = L := by
      have := (List.getElem?_eq_some_iff.1 hL).2
      rw [← this, List.set_getElem_self]
    refine ⟨A, c, w, ?_, by rw [List.length_nil, Nat.add_zero, rowsC, List.map_nil, List.flatten_nil, List.append_nil, hLe]; exact H⟩
    cases A2 with
    | none => exact run_append_of_nil (P := Try.prog) w w0.heap.size t ty _ ti size ht hti _ _ _ hown c2
    | some ad =>
      have h00 : (loadCells ad 0).run Try.prog w = .ok #[] w := rfl
      rcases hown.2 with ⟨hv, hn⟩ | ⟨g, cap, cur, hv, _, _, hnc, _⟩
      · injection hv with v1 v2 v3
        subst v1 v2 v3
        simp [Builtin.append_, run_underlying ht, sizeOf, typeInfo, hti, Builtin.lenOf, Builtin.firstCells, h00]
      · injection hv with v1 v2 v3
        subst v1 v3
        simp [Builtin.append_, run_underlying ht, sizeOf, typeInfo, hti, Builtin.lenOf, Builtin.firstCells, hnc, storeCells, h00]
  · obtain ⟨b, o, rfl, hc⟩ := hr h0
    have hpos := List.length_pos_iff.2 h0
    refine H.appendRun i hL t ty ti z bytes ht hti hz0 hz1 hz2 hz hs0 ⟨b, o, none⟩ l.length c2 (rowsC f l) (rowsC_len hf l) ?_ ?_ (by have := le_maxLen; omega) ?_ (by omega)
    · intro j u hj
      have hjl : j < l.length * size := by have := (List.getElem?_eq_some_iff.1 hj).1; rwa [rowsC_len hf l] at this
      have hi2 : j / size < l.length := Nat.div_lt_of_lt_mul (by rw [Nat.mul_comm]; exact hjl)
      have hm := Nat.mod_lt j hs0
      have hd := Nat.div_add_mod j size
      rw [Nat.mul_comm] at hd
      rw [← hd, rowsC_get hf l _ _ hi2 hm] at hj
      have := hc _ hi2 _ _ hj
      rw [Addr.add_lit, ← this, ← hd, Nat.add_assoc]
      congr 3
      rw [hd, hd]
    · intro u hu
      unfold rowsC at hu
      obtain ⟨y, hy, huy⟩ := List.mem_flatten.1 hu
      obtain ⟨x, _, rfl⟩ := List.mem_map.1 hy
      exact h1 x u huy
    · have : (n + l.length) * bytes ≤ 2000000 * 1000 := Nat.mul_le_mul (by omega) hby
      omega
/-- a slice of none, in a block of its own -/
theorem Hp.bsl0 {w0 w : World} {L : List Item} {ops : Array Oper} {rest : List Oper} {a : Act} {Q : Exit → Act → World → Prop} {d : Option Tmp} {tt t e : TypeId} {ps : String} {af : Array Edge} {gd : Option (Nat × Bool)} (H : Hp w0 w L) {n : Nat} (ht : Try.prog.underlying t = some (.slice e)) (hi : (Try.prog.info? e).map (fun i => i.size) = some n)
    (h : Region.wanted { dst := d, op := .buildSlice t 0 #[], type := tt, pos := ps, after := af, guard := gd } (yielded ops a.tmps) = true ∧ ∀ g w', Hp w0 w' (.own e n (some ⟨g, 0, none⟩) 0 0 [] :: L) → wpList Try.prog ops Q rest (a.put d (.slice (some ⟨g, 0, none⟩) 0 0)) w') :
    wpList Try.prog ops Q ({ dst := d, op := .buildSlice t 0 #[], type := tt, pos := ps, after := af, guard := gd } :: rest) a w := by
  obtain ⟨h1, hk⟩ := h
  cases hq : Try.prog.info? e with
  | none => rw [hq] at hi; cases hi
  | some i =>
    rw [hq] at hi
    simp only [Option.map_some, Option.some.injEq] at hi
    have he : (execOp a.eval { dst := d, op := .buildSlice t 0 #[], type := tt, pos := ps, after := af, guard := gd }).run Try.prog w = .ok (.value (.slice (some ⟨w.heap.size, 0, none⟩) 0 0)) (w.alloc (.cells #[] e)) := by
      simp [execOp, Instr.buildSlice, run_underlying ht, sizeOf, typeInfo, hq, newRow, Instr.fill]
      congr 2
      apply Array.ext <;> simp
    have ho : (w.alloc (.cells #[] e)).ownsRow w0.heap.size e n (.slice (some ⟨w.heap.size, 0, none⟩) 0 0) 0 [] := by
      have := World.ownsRow_lit (base := w0.heap.size) (e := e) (size := n) w #[] 0 H.size (by unfold maxLen; omega) (by simp)
      simpa using this
    have H1 : Hp w0 (w.alloc (.cells #[] e)) (.own e n (some ⟨w.heap.size, 0, none⟩) 0 0 [] :: L) :=
      H.new (H.below.alloc H.size _) (by simp) (fun k hk => Below.heap_alloc w _ k hk) ho (fun k hk => by simp [Item.foot] at hk; subst hk; simp)
    refine BigFrame.wpList_want h1 fun K hK => ?_
    unfold Oper.wp
    rw [he]
    exact hK _ _ (hk _ _ H1)
/-- rows appended: the walk's step -/
theorem Hp.wlAppRd {α : Type} {f : α → List Value} {w0 w : World} {L : List Item} {ops : Array Oper} {rest : List Oper} {a : Act} {Q : Exit → Act → World → Prop} {d : Option Tmp} {tt t e : TypeId} {ps : String} {af : Array Edge} {x s : Operand} (H : Hp w0 w L) {size bytes : Nat} {z : Value} (hf : ∀ x, (f x).length = size) (h1 : ∀ x, ∀ u ∈ f x, u.oneCell' = true)
    (ht : Try.prog.underlying t = some (.slice e)) (hi : (Try.prog.info? e).map (fun i => (i.zero, i.size, i.bytes)) = some (some z, size, bytes)) (hz : z.cells.size = size) (hs0 : Nat.ble 1 size = true) (hby : Nat.ble bytes 1000 = true)
    (h : ∃ (i : Nat) (A : Option Addr) (n c : Nat) (xs : List Value), a.eval s = .slice A n c ∧ L[i]? = some (.own e size A n c xs) ∧ ∃ (A2 : Option Addr) (m c2 : Nat) (l : List α), a.eval x = .slice A2 m c2 ∧ m = l.length ∧ RdR f size w A2 l ∧ n ≤ 1000000 ∧ l.length ≤ 1000000 ∧
      ∀ A' c' w', Hp w0 w' (L.set i (.own e size A' (n + l.length) c' (xs ++ rowsC f l))) → wpList Try.prog ops Q rest (a.put d (.slice A' (n + l.length) c')) w') :
    wpList Try.prog ops Q ({ dst := d, op := .call { callee := .builtin .append, args := #[s, x], argTypes := #[t, t] }, type := tt, pos := ps, after := af, guard := none } :: rest) a w := by
  obtain ⟨i, A, n, c, xs, hs, hL, A2, m, c2, l, hx, rfl, hr, hn, hl, hk⟩ := h
  obtain ⟨A', c', w', hrun, hH⟩ := H.appRd hf h1 ht hi hz (Nat.le_of_ble_eq_true hs0) (Nat.le_of_ble_eq_true hby) tt i hL A2 c2 l hr hn hl
  refine wpList_plain rfl fun K hK => ?_
  have := ex_app (a := a) (oi := { dst := d, op := .call { callee := .builtin .append, args := #[s, x], argTypes := #[t, t] }, type := tt, pos := ps, after := af, guard := none }) rfl hs hx hrun
  unfold Oper.wp
  rw [this]
  exact hK _ _ (hk A' c' w' hH)
/-- a cell of rows of the call's own -/
theorem Hp.cellR {α : Type} {f : α → List Value} {n : Nat} (hf : ∀ x, (f x).length = n) {w0 w : World} {L : List Item} (H : Hp w0 w L) (i : Nat) {e : TypeId} {b o c : Nat} {l : List α} (hL : L[i]? = some (.rows e n f (some ⟨b, o, none⟩) c l)) (k j : Nat) (hk : k < l.length) {v : Value} (hv : (f l[k])[j]? = some v) : w.cell? ⟨b, o + k * n + j, none⟩ = some v := by
  obtain ⟨b', o', e', hc⟩ := (H.rd hf i hL).at_ hk
  injection e' with e'
  injection e' with e1 e2
  subst e1 e2
  exact hc k hk j v hv
theorem hq_ldW {P : Program} {a : Act} {w0 : World} {L : List Item} {ops : Array Oper} {rest : List Oper} {d : Option Tmp} {ty tt : TypeId} {x : Operand} {ps : String} {af : Array Edge} {gd : Option (Nat × Bool)} {Q : Act → Prop} (h : Region.wanted { dst := d, op := .load ty x, type := tt, pos := ps, after := af, guard := gd } (yielded ops a.tmps) = true ∧ oneT P ty = true ∧ ∃ p, a.eval x = .pointer (some p) ∧
    ∃ v, (∀ y : HpS w0 L, y.val.cell? p = some v) ∧ wpQuiet P ops (fun w' => ∃ x : HpS w0 L, w' = x.val) Q rest (a.put d v)) :
    wpQuiet P ops (fun w' => ∃ x : HpS w0 L, w' = x.val) Q ({ dst := d, op := .load ty x, type := tt, pos := ps, after := af, guard := gd } :: rest) a := by
  obtain ⟨h1, h2, p, hx, v, hv, h⟩ := h
  refine BigFrame.wpQuiet_want h1 fun K hK => quiet_of_run v ?_ (hK _ h)
  rintro w ⟨y, rfl⟩
  have := run_loadAt_cell (P := P) (oneT_c h2) (hv y)
  simp [execOp, hx, this]
end Go.Proofs.Ytanpglhpmfdnmaa
