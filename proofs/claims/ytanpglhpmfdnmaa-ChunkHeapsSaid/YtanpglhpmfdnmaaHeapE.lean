/-
  MORE OF THE SMALL HEAP: calls that write what their caller made; a drawn region that reads twice and appends.
-/
import Derived.Test.YtanpglhpmfdnmaaHeapD
import Derived.Laws.StructEq
namespace Go.Proofs.Ytanpglhpmfdnmaa
open Go.RowKit
set_option linter.unusedVariables false

/-- a value; the small heap as told -/
def RetH (w0 : World) (L : List Item) (v : Value) (e : Ending) (w' : World) : Prop := e = .returned v ∧ Hp w0 w' L
theorem HpS.rd {w0 : World} {L : List Item} (x : HpS w0 L) {A : Option Addr} {l : List UInt8} (h : Rd w0 A l) : Rd x.val A l := h.below x.2.below
theorem Hp.rot2 {w0 w : World} {a b : Item} {L : List Item} (H : Hp w0 w (a :: b :: L)) : Hp w0 w (b :: a :: L) := H.perm (List.Perm.swap b a L)
theorem Hp.rot3 {w0 w : World} {a b c : Item} {L : List Item} (H : Hp w0 w (a :: b :: c :: L)) : Hp w0 w (b :: c :: a :: L) := (H.perm (List.Perm.swap b a (c :: L))).perm ((List.Perm.swap c a L).cons b)
theorem Hp.del2 {w0 w : World} {a b c : Item} {L : List Item} (H : Hp w0 w (a :: b :: c :: L)) : Hp w0 w (a :: b :: L) := H.sub (((List.sublist_cons_self c L).cons_cons b).cons_cons a)
/-- relative to an earlier world -/
theorem Hp.onto {w0 w w' : World} {L L' : List Item} (H : Hp w w' L') (H0 : Hp w0 w L) : Hp w0 w' (L' ++ L) := by
  have hc := H0.call H.below
  refine ⟨hc.below, ?_, ?_, ?_⟩
  · intro y hy
    rcases List.mem_append.1 hy with h | h
    · have := H.holds y h
      cases y with
      | blk g t cs => exact this
      | obj g o => exact this
      | own e size A n c xs =>
        refine ⟨this.1, ?_⟩
        rcases this.2 with hn | ⟨g, cap, cur, hv, hbb, r⟩
        · exact .inl hn
        · exact .inr ⟨g, cap, cur, hv, by have := H0.size; omega, r⟩
    · exact hc.holds y h
  · intro y hy k hk
    rcases List.mem_append.1 hy with h | h
    · have := H.fresh y h k hk
      have := H0.size
      omega
    · exact hc.fresh y h k hk
  · refine List.pairwise_append.2 ⟨H.apart, H0.apart, ?_⟩
    intro y hy z hz k hk hk2
    have := H.fresh y hy k hk
    have := H0.fresh z hz k hk2
    omega
/-- an empty slice of the call's own -/
theorem Hp.nilOwn {w0 w : World} {L : List Item} (H : Hp w0 w L) (c : Nat := 0) : Hp w0 w (.bytes none 0 [] :: L) := by
  refine ⟨H.below, ?_, ?_, ?_⟩
  · intro x hx
    rcases List.mem_cons.1 hx with rfl | hx
    · exact Own.none_ w w0.heap.size
    · exact H.holds x hx
  · intro x hx k hk
    rcases List.mem_cons.1 hx with rfl | hx
    · cases hk
    · exact H.fresh x hx k hk
  · exact List.pairwise_cons.2 ⟨fun y hy k hk => (by cases hk), H.apart⟩
/-- bytes appended to those of the call's own -/
theorem Hp.appBytes {w0 w : World} {L : List Item} (H : Hp w0 w L) (ty : TypeId) (i : Nat) (A : Option Addr) (c : Nat) (l : List UInt8) (hL : L[i]? = some (.bytes A c l)) (A2 : Option Addr) (c2 : Nat) (news : List UInt8) (hr : Rd w A2 news) (hlen : l.length + news.length ≤ 140737488355328) :
    ∃ A' c' w', (Builtin.append_ #[22, 22] ty #[.slice A l.length c, .slice A2 news.length c2]).run Try.prog w = .ok (.slice A' (l ++ news).length c') w' ∧ Hp w0 w' (L.set i (.bytes A' c' (l ++ news))) := by
  obtain ⟨ti, hi, hz0, hz1, hz2⟩ := info_parts u8_info
  have hown : Own w w0.heap.size A c l := H.o i hL
  by_cases h0 : news = []
  · subst h0
    have hLe : L.set i (.bytes A c l) = L := by
      have := (List.getElem?_eq_some_iff.1 hL).2
      rw [← this, List.set_getElem_self]
    refine ⟨A, c, w, ?_, by rw [List.append_nil, hLe]; exact H⟩
    rw [List.append_nil]
    cases A2 with
    | none => exact run_append_of_nil (P := Try.prog) w w0.heap.size 22 ty _ ti 1 u8_slice hi _ _ _ hown c2
    | some ad =>
      have h00 : (loadCells ad 0).run Try.prog w = .ok #[] w := rfl
      rcases hown.2 with ⟨hv, hn⟩ | ⟨g, cap, cur, hv, _, _, hnc, _⟩
      · rw [hv]; simp [Builtin.append_, run_underlying u8_slice, sizeOf, typeInfo, hi, Builtin.lenOf, Builtin.firstCells, h00]
      · rw [hv]; simp [Builtin.append_, run_underlying u8_slice, sizeOf, typeInfo, hi, Builtin.lenOf, Builtin.firstCells, hnc, storeCells, h00]
  · obtain ⟨b, oo, rfl, hc⟩ := hr h0
    have hpos := List.length_pos_iff.2 h0
    obtain ⟨A', c', w', hrun, hH⟩ := H.appendRun i hL 22 ty ti _ 1 u8_slice hi hz0 hz1 hz2 rfl (by omega) ⟨b, oo, none⟩ news.length c2 (bvs news) (by simp [bvs])
      (by
        intro j u hu
        have hj : j < news.length := by have := (List.getElem?_eq_some_iff.1 hu).1; rwa [bvs_length] at this
        rw [Addr.add_lit, hc j hj, ← hu, bvs_get _ _ hj])
      (bvs_one _) (by have := le_maxLen; omega) (by omega) (by omega)
    refine ⟨A', c', w', by rw [List.length_append]; exact hrun, ?_⟩
    unfold Item.bytes
    rw [bvs_append, List.length_append]
    exact hH
section
variable {P : Program} {md : Region.Mode} {a : Act} {w0 w : World} {Q : Exit → Act → World → Prop} {L L0 : List Item} {ops : List Oper} {fuel : Nat} {listed : Array Bool}
theorem hw_value {oi : Oper} {K : Act → World → Prop} {v : Value} (he : (execOp a.eval oi).run P w = .ok (.value v) w) (hk : K (a.put oi.dst v) w) : oi.wp P a w K Q := by
  unfold Oper.wp
  rw [he]
  exact hk
/-- an operation that makes a value and turns the world, in one way -/
theorem hw_turn {oi : Oper} {K : Act → World → Prop} {v : Value} {w' : World} (he : (execOp a.eval oi).run P w = .ok (.value v) w') (hk : K (a.put oi.dst v) w') : oi.wp P a w K Q := by
  unfold Oper.wp
  rw [he]
  exact hk
/-- i reads what k, behind it, wants; j reads besides: the three come in whatever order; k turns the world, what i and j read stays as it was -/
theorem hw_lap (hS : HpW w0 L0 w) (i j k : Nat) (hij : i ≠ j) (hik : i ≠ k) (hjk : j ≠ k)
    (hr : Region.ready md ops.toArray listed = [i, j]) (hri : (Region.ready md ops.toArray (listed.setIfInBounds i true)) = [k, j] ∨ (Region.ready md ops.toArray (listed.setIfInBounds i true)) = [j, k])
    (hrj : Region.ready md ops.toArray (listed.setIfInBounds j true) = [i]) (hrij : Region.ready md ops.toArray ((listed.setIfInBounds i true).setIfInBounds j true) = [k]) (hrik : Region.ready md ops.toArray ((listed.setIfInBounds i true).setIfInBounds k true) = [j])
    (h : ∃ oi oj ok, ops[i]? = some oi ∧ ops[j]? = some oj ∧ ops[k]? = some ok ∧ Region.wanted oi (yielded ops.toArray a.tmps) = true ∧ Region.wanted oj (yielded ops.toArray a.tmps) = true ∧ ∃ vi vj vk w', (execOp a.eval oi).run P w = .ok (.value vi) w ∧ (execOp a.eval oj).run P w = .ok (.value vj) w ∧
      (execOp (a.put oi.dst vi).eval ok).run P w = .ok (.value vk) w' ∧ HpW w0 L0 w' ∧
      Region.wanted oj (yielded ops.toArray (a.put oi.dst vi).tmps) = true ∧ Region.wanted oi (yielded ops.toArray (a.put oj.dst vj).tmps) = true ∧ Region.wanted ok (yielded ops.toArray (a.put oi.dst vi).tmps) = true ∧ Region.wanted ok (yielded ops.toArray ((a.put oi.dst vi).put oj.dst vj).tmps) = true ∧
      Region.wanted oj (yielded ops.toArray ((a.put oi.dst vi).put ok.dst vk).tmps) = true ∧
      (execOp (a.put oi.dst vi).eval oj).run P w = .ok (.value vj) w ∧ (execOp (a.put oj.dst vj).eval oi).run P w = .ok (.value vi) w ∧ (execOp ((a.put oi.dst vi).put oj.dst vj).eval ok).run P w = .ok (.value vk) w' ∧ (execOp ((a.put oi.dst vi).put ok.dst vk).eval oj).run P w' = .ok (.value vj) w' ∧
      (a.put oj.dst vj).put oi.dst vi = (a.put oi.dst vi).put oj.dst vj ∧ ((a.put oi.dst vi).put ok.dst vk).put oj.dst vj = ((a.put oi.dst vi).put oj.dst vj).put ok.dst vk ∧
      wpAnyH P md ops.toArray Q (HpW w0 L0) fuel (((listed.setIfInBounds i true).setIfInBounds j true).setIfInBounds k true) (((a.put oi.dst vi).put oj.dst vj).put ok.dst vk) w') :
    wpAnyH P md ops.toArray Q (HpW w0 L0) (fuel + 1 + 1 + 1) listed a w := by
  obtain ⟨oi, oj, ok, h1, h2, h3, u1, u2, vi, vj, vk, w', e1, e2, e3, hS', u3, u4, u5, u6, u7, x1, x2, x3, x4, y1, y2, hk⟩ := h
  -- both reads, then k
  have hij2 : wpAnyH P md ops.toArray Q (HpW w0 L0) (fuel + 1) ((listed.setIfInBounds i true).setIfInBounds j true) ((a.put oi.dst vi).put oj.dst vj) w :=
    hw_one k hrij ⟨ok, h3, u6, fun K hK => hw_turn x3 (hK _ _ hS' hk)⟩
  have hik2 : wpAnyH P md ops.toArray Q (HpW w0 L0) (fuel + 1) ((listed.setIfInBounds i true).setIfInBounds k true) ((a.put oi.dst vi).put ok.dst vk) w' :=
    hw_one j hrik ⟨oj, h2, u7, fun K hK => hw_value x4 (hK _ _ hS' (by rw [y2, Array.setIfInBounds_comm _ _ (Ne.symm hjk)]; exact hk))⟩
  refine hw_two i j hr ⟨oi, h1, u1, fun K hK => hw_value e1 (hK _ _ hS ?_)⟩ ⟨oj, h2, u2, fun K hK => hw_value e2 (hK _ _ hS ?_)⟩
  · rcases hri with hri | hri
    · exact hw_two k j hri ⟨ok, h3, u5, fun K hK => hw_turn e3 (hK _ _ hS' hik2)⟩ ⟨oj, h2, u3, fun K hK => hw_value x1 (hK _ _ hS hij2)⟩
    · exact hw_two j k hri ⟨oj, h2, u3, fun K hK => hw_value x1 (hK _ _ hS hij2)⟩ ⟨ok, h3, u5, fun K hK => hw_turn e3 (hK _ _ hS' hik2)⟩
  · refine hw_one i hrj ⟨oi, h1, u4, fun K hK => hw_value x2 (hK _ _ hS ?_)⟩
    rw [y1, Array.setIfInBounds_comm _ _ (Ne.symm hij)]
    exact hij2
/-- one whose guard says no -/
theorem hw_skip (hS : HpW w0 L0 w) (i : Nat) (hs : Region.noSelect ops.toArray = true) (hf : Region.free md ops.toArray listed i = true) (hr : (Region.ready md ops.toArray listed).contains i = true)
    (h : ∃ oi, ops[i]? = some oi ∧ Region.wanted oi (yielded ops.toArray a.tmps) = false ∧ (∀ c a w, Q (.panic c) (a.put oi.dst undef) w → Q (.panic c) a w) ∧ wpAnyH P md ops.toArray Q (HpW w0 L0) fuel (listed.setIfInBounds i true) (a.put oi.dst undef) w) : wpAnyH P md ops.toArray Q (HpW w0 L0) (fuel + 1) listed a w := by
  obtain ⟨oi, h1, h2, hQ, h4⟩ := h
  exact wpAnyH_take (by simpa using h1) hs hf hr hQ (Or.inr ⟨h2, rfl⟩) hS h4
/-- an append to bytes -/
theorem ex_append {a : Act} {oi : Oper} {s x : Operand} {u v r : Value} {w w' : World} (ho : oi.op = .call { callee := .builtin .append, args := #[s, x], argTypes := #[22, 22] }) (hs : a.eval s = u) (hx : a.eval x = v)
    (h : (Builtin.append_ #[22, 22] oi.type #[u, v]).run Try.prog w = .ok r w') : (execOp a.eval oi).run Try.prog w = .ok (.value r) w' := by
  subst hs hx
  unfold execOp
  simp only [ho, resolve, invoke, builtin, Sem.run_bind, Sem.run_pure, Result.andThen_ok, List.map_toArray, List.map_cons, List.map_nil, h]
end
section
variable {P : Program} {a : Act} {w0 w : World} {Q : Exit → Act → World → Prop} {L : List Item} {ops : Array Oper} {rest : List Oper} {d : Option Tmp} {ty tt : TypeId} {x y : Operand} {ps : String} {af : Array Edge} {gd : Option (Nat × Bool)}
/-- a store of one cell, the value told -/
theorem Hp.stv (H : Hp w0 w L) (h : Region.wanted { dst := d, op := .store ty x y, type := tt, pos := ps, after := af, guard := gd } (yielded ops a.tmps) = true ∧ oneT P ty = true ∧ ∃ v, a.eval y = v ∧ v.oneCell' = true ∧ ∃ g off, a.eval x = .pointer (some ⟨g, off, none⟩) ∧
    ∃ i t cs, Has L i (.blk g t cs) ∧ (∃ u, cs[off]? = some u) ∧ ∀ w', Hp w0 w' (L.set i (.blk g t (cs.set off v))) → wpList P ops Q rest (a.put d undef) w') :
    wpList P ops Q ({ dst := d, op := .store ty x y, type := tt, pos := ps, after := af, guard := gd } :: rest) a w := by
  obtain ⟨h1, h2, v, hy, h6, g, off, h3, i, t, cs, h4, ⟨u, h5⟩, h7⟩ := h
  exact H.wlSt ty x y rfl h1 g off h3 i t cs h4 _ hy h6 u h5 (oneT_s h2) h7
end
/-- a store of one cell -/
theorem hw_sto {P : Program} {a : Act} {w0 w : World} {Q : Exit → Act → World → Prop} {L : List Item} {oi : Oper} {K : Act → World → Prop} {ty : TypeId} {x y : Operand} {g off : Nat} {v : Value} (hc : oneT P ty = true) (ho : oi.op = .store ty x y) (hx : a.eval x = .pointer (some ⟨g, off, none⟩)) (hy : a.eval y = v) (H : Hp w0 w L) {i : Nat} {t : TypeId} {cs : List Value} (hL : Has L i (.blk g t cs)) (hl : off < cs.length) (h1 : v.oneCell' = true)
    (h : ∀ w', Hp w0 w' (L.set i (.blk g t (cs.set off v))) → K (a.put oi.dst undef) w') : oi.wp P a w K Q := by
  have hu : ∃ u, cs[off]? = some u := ⟨cs[off], List.getElem?_eq_getElem hl⟩
  obtain ⟨u, hu⟩ := hu
  have hh := run_storeAt_cell (P := P) (oneT_s hc) (H.c i hL.get off hu) ((H.b i hL.get).frozen off) h1
  have h4 := h _ (H.setBlk i hL.get off v)
  unfold Oper.wp
  simp [execOp, ho, hx, hy, hh]
  exact h4
end Go.Proofs.Ytanpglhpmfdnmaa
