/-
  ROWS OF THE CALL's OWN: one is taken out; what lies behind them is cleared.
-/
import Derived.Test.YtiieakndjheknaaDoorNtP
import Derived.Laws.CopyRow
namespace Go.Proofs.YtiieakndjheknaaDoor
set_option maxRecDepth 100000
open Go.RowKit
set_option linter.unusedVariables false
set_option linter.unusedSimpArgs false
theorem Hp.setRowOwn {w0 w : World} {L : List Item} (H : Hp w0 w L) (ix : Nat) {e : TypeId} {sz g n c : Nat} {xs : List Value} (hL : L[ix]? = some (.own e sz (some ⟨g, 0, none⟩) n c xs)) (cells : Array Value) (n' : Nat) (xs' : List Value)
    (hl : xs'.length = n' * sz) (hn : n' ≤ c) (hs : cells.size = c * sz) (ht : cells.toList.take (n' * sz) = xs') : Hp w0 (w.setRow g cells) (L.set ix (.own e sz (some ⟨g, 0, none⟩) n' c xs')) := by
  have hi : ix < L.length := (List.getElem?_eq_some_iff.1 hL).1
  have H1 := H.front ix hL
  have hfr := H1.fresh _ List.mem_cons_self g rfl
  have hh := H1.holds _ List.mem_cons_self
  rcases hh.2 with ⟨hv, _⟩ | ⟨g', cap, cur, hv, hbb, hg, hnc, hcm, hcs, htk⟩
  · cases hv
  injection hv with h1 h2 h3
  injection h1 with h1
  injection h1 with h1
  subst h1 h3
  have hgr : w.grownBy (w.setRow g cells) (some g) := ⟨rfl, rfl, rfl, by simp, fun k _ hk => setRow_other w g k _ (fun e => hk (by simp [e]))⟩
  refine Hp.back ix hi (H1.upd (H.below.grown hgr H.size (fun k e => by injection e with e; subst e; exact hfr.1)) hgr.size ?_ ?_ ?_)
  · intro k hk hne
    exact hgr.block k hk (fun e => hne (by injection e with e; subst e; rfl))
  · exact ⟨hl, .inr ⟨g, c, cells, rfl, hbb, setRow_heap w g cur _ e _ hg, hn, hcm, hs, ht⟩⟩
  · intro k hk
    simp [Item.foot] at hk
    subst hk
    exact ⟨.inl rfl, hfr.1, by simpa using hfr.2⟩
/-- rows at an end are none of the call's any more -/
theorem Hp.less {w0 w : World} {L : List Item} (H : Hp w0 w L) (ix : Nat) {e : TypeId} {sz g n c : Nat} {xs : List Value} (hL : L[ix]? = some (.own e sz (some ⟨g, 0, none⟩) n c xs)) (n' : Nat) (hn : n' ≤ n) : Hp w0 w (L.set ix (.own e sz (some ⟨g, 0, none⟩) n' c (xs.take (n' * sz)))) := by
  have hi : ix < L.length := (List.getElem?_eq_some_iff.1 hL).1
  have H1 := H.front ix hL
  have hfr := H1.fresh _ List.mem_cons_self g rfl
  have hh := H1.holds _ List.mem_cons_self
  rcases hh.2 with ⟨hv, _⟩ | ⟨g', cap, cur, hv, hbb, hg, hnc, hcm, hcs, htk⟩
  · cases hv
  injection hv with h1 h2 h3
  injection h1 with h1
  injection h1 with h1
  subst h1 h3
  have hle : n' * sz ≤ n * sz := Nat.mul_le_mul_right _ hn
  refine Hp.back ix hi (H1.upd H.below (Nat.le_refl _) (fun _ _ _ => rfl) ?_ ?_)
  · refine ⟨by rw [List.length_take, hh.1]; omega, .inr ⟨g, c, cur, rfl, hbb, hg, by omega, hcm, hcs, ?_⟩⟩
    rw [← htk, List.take_take, Nat.min_eq_left hle]
  · intro k hk
    simp [Item.foot] at hk
    subst hk
    exact ⟨.inl rfl, hfr⟩
section
variable {P : Program} {w0 w : World} {L : List Item} {e t : TypeId} {sz bytes : Nat} {z : Value}
theorem zero_run (hi : (P.info? e).map (fun i => (i.zero, i.size, i.bytes)) = some (some z, sz, bytes)) (w : World) : (zeroValue e).run P w = .ok z w := by
  obtain ⟨ti, hti, hz0, hz1, hz2⟩ := info_parts hi
  simp [zeroValue, typeInfo, hti, hz0]
theorem zeroCells_one {zs : Array Value} (h0 : 0 < zs.size) (h1 : ∀ u ∈ zs.toList, u.oneCell' = true) (k : Nat) : ∀ u ∈ (Builtin.zeroCells zs k).toList, u.oneCell' = true := by
  intro u hu
  unfold Builtin.zeroCells at hu
  simp only [Array.toList_map, List.mem_map] at hu
  obtain ⟨i, _, rfl⟩ := hu
  have hm := Nat.mod_lt i h0
  rw [getElem!_pos zs _ hm]
  exact h1 _ (by simp)
/-- rows behind those of the call's own are cleared -/
theorem Hp.clrRun (H : Hp w0 w L) (ht : P.underlying t = some (.slice e)) (hi : (P.info? e).map (fun i => (i.zero, i.size, i.bytes)) = some (some z, sz, bytes)) (hz : z.cells.size = sz) (hs0 : 0 < sz) (h1 : ∀ u ∈ z.cells.toList, u.oneCell' = true) (ty : TypeId)
    (ix : Nat) {g n c : Nat} {xs : List Value} (hL : L[ix]? = some (.own e sz (some ⟨g, 0, none⟩) n c xs)) (k c2 : Nat) (hk : n + k ≤ c) (a : Addr) (ha : 0 < k → a = ⟨g, n * sz, none⟩) :
    ∃ w', (Builtin.clear_ #[t] ty #[.slice (some a) k c2]).run P w = .ok (.tuple #[]) w' ∧ Hp w0 w' L := by
  by_cases h0 : k = 0
  · subst h0
    exact ⟨w, by simp [Builtin.clear_, run_underlying ht], H⟩
  · obtain rfl := ha (by omega)
    have hh := H.holds _ (List.mem_of_getElem? hL)
    rcases hh.2 with ⟨hv, _⟩ | ⟨g', cap, cur, hv, hbb, hg, hnc, hcm, hcs, htk⟩
    · cases hv
    injection hv with q1 q2 q3
    injection q1 with q1
    injection q1 with q1
    subst q1 q3
    have hlen : (Builtin.zeroCells z.cells k).toList.length = k * sz := by rw [Array.length_toList, size_zeroCells, hz]
    have hfit : n * sz + k * sz ≤ c * sz := by rw [← Nat.add_mul]; exact Nat.mul_le_mul_right _ hk
    have hst := run_storeCells_at P g (n * sz) e (Builtin.zeroCells z.cells k).toList 0 cur w hg (by rw [hlen, hcs]; omega) (zeroCells_one (by omega) h1 k)
    obtain ⟨k', rfl⟩ : ∃ k', k = k' + 1 := ⟨k - 1, by omega⟩
    obtain ⟨W, hW⟩ : ∃ W, w.setRow g (cur.toList.take (n * sz + 0) ++ (Builtin.zeroCells z.cells (k' + 1)).toList ++ cur.toList.drop (n * sz + 0 + (Builtin.zeroCells z.cells (k' + 1)).toList.length)).toArray = W := ⟨_, rfl⟩
    rw [hW] at hst
    refine ⟨W, by simp [Builtin.clear_, run_underlying ht, zero_run hi, hst], ?_⟩
    subst hW
    have hLe : L.set ix (.own e sz (some ⟨g, 0, none⟩) n c xs) = L := by
      have := (List.getElem?_eq_some_iff.1 hL).2
      rw [← this, List.set_getElem_self]
    have hcll : cur.toList.length = c * sz := by rw [Array.length_toList, hcs]
    have := H.setRowOwn ix hL (cur.toList.take (n * sz + 0) ++ (Builtin.zeroCells z.cells (k' + 1)).toList ++ cur.toList.drop (n * sz + 0 + (Builtin.zeroCells z.cells (k' + 1)).toList.length)).toArray n xs hh.1 hnc (by
      rw [List.size_toArray, List.length_append, List.length_append, hlen, List.length_take, List.length_drop, hcll]
      omega) (by
      rw [← htk, List.toList_toArray, Nat.add_zero, List.append_assoc, List.take_append_of_le_length (by rw [List.length_take, hcll]; omega), List.take_take, Nat.min_self])
    rwa [hLe] at this
/-- one row is taken out: those behind it are moved -/
theorem Hp.delRun (H : Hp w0 w L) (ht : P.underlying t = some (.slice e)) (hi : (P.info? e).map (fun i => (i.zero, i.size, i.bytes)) = some (some z, sz, bytes)) (ty : TypeId)
    (ix : Nat) {g n c : Nat} {xs : List Value} (hL : L[ix]? = some (.own e sz (some ⟨g, 0, none⟩) n c xs)) (h1 : ∀ u ∈ xs, u.oneCell' = true) (i m c2 : Nat) (hn : n = i + 1 + m) (a : Addr) (ha : 0 < m → a = ⟨g, (i + 1) * sz, none⟩) :
    ∃ w', (Builtin.append_ #[t, t] ty #[.slice (some ⟨g, 0, none⟩) i c, .slice (some a) m c2]).run P w = .ok (.slice (some ⟨g, 0, none⟩) (i + m) c) w' ∧ Hp w0 w' (L.set ix (.own e sz (some ⟨g, 0, none⟩) (i + m) c (xs.take (i * sz) ++ xs.drop ((i + 1) * sz)))) := by
  subst hn
  obtain ⟨ti, hti, hz0, hz1, hz2⟩ := info_parts hi
  have hh := H.holds _ (List.mem_of_getElem? hL)
  rcases hh.2 with ⟨hv, _⟩ | ⟨g', cap, cur, hv, hbb, hg, hnc, hcm, hcs, htk⟩
  · cases hv
  injection hv with q1 q2 q3
  injection q1 with q1
  injection q1 with q1
  subst q1 q3
  have hlx : xs.length = (i + 1 + m) * sz := hh.1
  have hnl : (xs.drop ((i + 1) * sz)).length = m * sz := by rw [List.length_drop, hlx, Nat.add_mul]; omega
  have e1 : (i + 1) * sz = i * sz + sz := by rw [Nat.add_mul]; omega
  have e2 : (i + 1 + m) * sz = i * sz + sz + m * sz := by rw [Nat.add_mul, e1]
  have e3 : (i + m) * sz = i * sz + m * sz := Nat.add_mul _ _ _
  have hcl : (i + 1 + m) * sz ≤ c * sz := Nat.mul_le_mul_right _ hnc
  have hsrc : ∀ j u, (xs.drop ((i + 1) * sz))[j]? = some u → w.cell? (a.add j) = some u := by
    intro j u hu
    have hj : j < m * sz := by have := (List.getElem?_eq_some_iff.1 hu).1; rwa [hnl] at this
    obtain rfl := ha (by
      rcases Nat.eq_zero_or_pos m with h | h
      · subst h; omega
      · exact h)
    rw [List.getElem?_drop] at hu
    have := World.ownsRow.cells hh (g := g) rfl ((i + 1) * sz + j) u hu
    rw [Addr.add_lit] at this ⊢
    rwa [Nat.zero_add] at this
  have hr := run_append_room (P := P) w t ty e ti ht hti g i c cur hg a m c2 (xs.drop ((i + 1) * sz)) (by rw [hz1]; exact hnl) hsrc (fun u hu => h1 u (List.mem_of_mem_drop hu)) (by omega) (by rw [hz1, hnl, hcs]; omega)
  refine ⟨_, hr, ?_⟩
  have hx : xs.take (i * sz) = cur.toList.take (i * sz) := by rw [← htk, List.take_take, Nat.min_eq_left (by omega)]
  have hcll : cur.toList.length = c * sz := by rw [Array.length_toList, hcs]
  refine H.setRowOwn ix hL _ (i + m) _ ?_ (by omega) ?_ ?_
  · rw [List.length_append, hnl, List.length_take, hlx]; omega
  · simp only [List.size_toArray, List.length_append, List.length_take, List.length_drop, hcll, hz1, hlx]
    omega
  · show ((cur.toList.take (i * ti.size) ++ xs.drop ((i + 1) * sz)) ++ cur.toList.drop (i * ti.size + (xs.drop ((i + 1) * sz)).length)).take ((i + m) * sz) = _
    rw [hz1, hx, List.take_append_of_le_length (by rw [List.length_append, hnl, List.length_take, hcll]; omega), List.take_of_length_le (by rw [List.length_append, hnl, List.length_take, hcll]; omega)]
/-- a part of a block is cleared -/
theorem Hp.clrBlk (H : Hp w0 w L) (ht : P.underlying t = some (.slice e)) (hz : ∀ w, (zeroValue e).run P w = .ok z w) (h1 : ∀ u ∈ z.cells.toList, u.oneCell' = true) (h0 : 0 < z.cells.size) (ty : TypeId)
    (ix : Nat) {g off k c2 : Nat} {t2 : TypeId} {cs : List Value} (hL : L[ix]? = some (.blk g t2 cs)) (hk : 0 < k) (hf : off + k * z.cells.size ≤ cs.length) :
    ∃ w', (Builtin.clear_ #[t] ty #[.slice (some ⟨g, off, none⟩) k c2]).run P w = .ok (.tuple #[]) w' ∧ Hp w0 w' (L.set ix (.blk g t2 (cs.take off ++ (Builtin.zeroCells z.cells k).toList ++ cs.drop (off + k * z.cells.size)))) := by
  have hb : Blk w g t2 cs.toArray := H.holds _ (List.mem_of_getElem? hL)
  have hlen : (Builtin.zeroCells z.cells k).toList.length = k * z.cells.size := by rw [Array.length_toList, size_zeroCells]
  have hst := run_storeCells_at P g off t2 (Builtin.zeroCells z.cells k).toList 0 cs.toArray w hb (by rw [hlen]; simpa using hf) (zeroCells_one h0 h1 k)
  obtain ⟨k', rfl⟩ : ∃ k', k = k' + 1 := ⟨k - 1, by omega⟩
  obtain ⟨W, hW⟩ : ∃ W, w.setRow g (cs.toArray.toList.take (off + 0) ++ (Builtin.zeroCells z.cells (k' + 1)).toList ++ cs.toArray.toList.drop (off + 0 + (Builtin.zeroCells z.cells (k' + 1)).toList.length)).toArray = W := ⟨_, rfl⟩
  rw [hW] at hst
  refine ⟨W, by simp [Builtin.clear_, run_underlying ht, hz, hst], ?_⟩
  rw [hlen] at hW
  change w.setRow g (cs.take off ++ (Builtin.zeroCells z.cells (k' + 1)).toList ++ cs.drop (off + (k' + 1) * z.cells.size)).toArray = W at hW
  subst hW
  have hi : ix < L.length := (List.getElem?_eq_some_iff.1 hL).1
  have H1 := H.front ix hL
  have hfr := H1.fresh _ List.mem_cons_self g rfl
  have hgr : ∀ cells, w.grownBy (w.setRow g cells) (some g) := fun cells => ⟨rfl, rfl, rfl, by simp, fun k _ hk => setRow_other w g k _ (fun e => hk (by simp [e]))⟩
  refine Hp.back ix hi (H1.upd (H.below.grown (hgr _) H.size (fun k e => by injection e with e; subst e; exact hfr.1)) (hgr _).size ?_ ?_ ?_)
  · intro k hk hne
    exact (hgr _).block k hk (fun e => hne (by injection e with e; subst e; rfl))
  · have := setRow_heap w g cs.toArray (cs.take off ++ (Builtin.zeroCells z.cells (k' + 1)).toList ++ cs.drop (off + (k' + 1) * z.cells.size)).toArray t2 (0, 0) hb
    exact this
  · intro k hk
    simp [Item.foot] at hk
    subst hk
    exact ⟨.inl rfl, hfr.1, by simpa using hfr.2⟩
end
end Go.Proofs.YtiieakndjheknaaDoor
