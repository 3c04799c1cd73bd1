/-
  A SMALL HEAP IN ONE HYPOTHESIS: what a call has made since it began, block by block; the world itself stays a variable. Laws for the walk's operations on it: in a plain region, and in one that draws its order.
-/
import Derived.Test.YtanpglhpmfdnmaaRet
import Derived.Laws.Rows
import Derived.Laws.Tables
import Derived.Deep.MidRow
import Derived.Maps.RangeWalk
namespace Go.Proofs.Ytanpglhpmfdnmaa
open Go.RowKit
set_option linter.unusedVariables false

inductive Item where
  | blk (g : Nat) (t : TypeId) (cs : List Value)
  | own (e : TypeId) (size : Nat) (A : Option Addr) (n c : Nat) (xs : List Value)
  | obj (g : Nat) (o : Obj)
/-- new bytes -/
abbrev Item.bytes (A : Option Addr) (c : Nat) (l : List UInt8) : Item := .own 5 1 A l.length c (bvs l)
def Item.holds (base : Nat) (w : World) : Item → Prop
  | .blk g t cs => Blk w g t cs.toArray
  | .own e size A n c xs => w.ownsRow base e size (.slice A n c) n xs
  | .obj g o => w.heap[g]? = some o
def Item.foot : Item → Option Nat
  | .blk g _ _ => some g
  | .own _ _ A _ _ _ => A.map (·.block)
  | .obj g _ => some g
theorem Item.keep {base : Nat} {w w' : World} {x : Item} (h : x.holds base w) (hk : ∀ k, x.foot = some k → w'.heap[k]? = w.heap[k]?) : x.holds base w' := by
  cases x with
  | blk g t cs => exact (hk g rfl).trans h
  | obj g o => exact (hk g rfl).trans h
  | own e size A n c xs =>
    refine ⟨h.1, ?_⟩
    rcases h.2 with hn | ⟨g, cap, cur, hv, hbb, hg, r⟩
    · exact .inl hn
    · refine .inr ⟨g, cap, cur, hv, hbb, (hk g ?_).trans hg, r⟩
      injection hv with hv
      simp [Item.foot, hv]
/-- no block of both -/
def Item.apart (x y : Item) : Prop := ∀ k, x.foot = some k → y.foot ≠ some k
theorem Item.apart.symm {x y : Item} (h : x.apart y) : y.apart x := fun k hy hx => h k hx hy

structure Hp (w0 w : World) (L : List Item) : Prop where
  below : Below w0.heap.size w0 w
  holds : ∀ x ∈ L, x.holds w0.heap.size w
  fresh : ∀ x ∈ L, ∀ k, x.foot = some k → w0.heap.size ≤ k ∧ k < w.heap.size
  apart : L.Pairwise Item.apart

theorem Hp.nil (w : World) : Hp w w [] := ⟨Below.refl _ _, by simp, by simp, List.Pairwise.nil⟩
theorem Hp.perm {w0 w : World} {L L' : List Item} (H : Hp w0 w L) (p : L.Perm L') : Hp w0 w L' :=
  ⟨H.below, fun x hx => H.holds x (p.mem_iff.2 hx), fun x hx => H.fresh x (p.mem_iff.2 hx), (p.pairwise_iff (fun h => h.symm)).1 H.apart⟩
theorem Hp.tail {w0 w : World} {x : Item} {L : List Item} (H : Hp w0 w (x :: L)) : Hp w0 w L :=
  ⟨H.below, fun y hy => H.holds y (List.mem_cons_of_mem _ hy), fun y hy => H.fresh y (List.mem_cons_of_mem _ hy), (List.pairwise_cons.1 H.apart).2⟩
theorem Hp.sub {w0 w : World} {L L' : List Item} (H : Hp w0 w L) (p : L'.Sublist L) : Hp w0 w L' :=
  ⟨H.below, fun x hx => H.holds x (p.subset hx), fun x hx => H.fresh x (p.subset hx), H.apart.sublist p⟩
theorem Hp.drop {w0 w : World} {L : List Item} (H : Hp w0 w L) (n : Nat) : Hp w0 w (L.drop n) := H.sub (List.drop_sublist n L)
theorem Hp.size {w0 w : World} {L : List Item} (H : Hp w0 w L) : w0.heap.size ≤ w.heap.size := H.below.size
/-- the first item turned, all else as it was -/
theorem Hp.upd {w0 w w' : World} {x x' : Item} {L : List Item} (H : Hp w0 w (x :: L)) (hb : Below w0.heap.size w0 w') (hs : w.heap.size ≤ w'.heap.size)
    (hk : ∀ k, k < w.heap.size → x.foot ≠ some k → w'.heap[k]? = w.heap[k]?) (hx : x'.holds w0.heap.size w')
    (hf : ∀ k, x'.foot = some k → (x.foot = some k ∨ w.heap.size ≤ k) ∧ w0.heap.size ≤ k ∧ k < w'.heap.size) : Hp w0 w' (x' :: L) := by
  have hap := List.pairwise_cons.1 H.apart
  refine ⟨hb, ?_, ?_, ?_⟩
  · intro y hy
    rcases List.mem_cons.1 hy with rfl | hy
    · exact hx
    · refine Item.keep (H.holds y (List.mem_cons_of_mem _ hy)) fun k hyk => hk k ?_ ?_
      · exact (H.fresh y (List.mem_cons_of_mem _ hy) k hyk).2
      · exact fun e => hap.1 y hy k e hyk
  · intro y hy k hyk
    rcases List.mem_cons.1 hy with rfl | hy
    · exact (hf k hyk).2
    · have := H.fresh y (List.mem_cons_of_mem _ hy) k hyk
      exact ⟨this.1, by omega⟩
  · refine List.pairwise_cons.2 ⟨fun y hy k hxk hyk => ?_, hap.2⟩
    rcases (hf k hxk).1 with h | h
    · exact hap.1 y hy k h hyk
    · have := (H.fresh y (List.mem_cons_of_mem _ hy) k hyk).2
      omega
/-- a new item -/
theorem Hp.new {w0 w w' : World} {x' : Item} {L : List Item} (H : Hp w0 w L) (hb : Below w0.heap.size w0 w') (hs : w.heap.size ≤ w'.heap.size)
    (hk : ∀ k, k < w.heap.size → w'.heap[k]? = w.heap[k]?) (hx : x'.holds w0.heap.size w') (hf : ∀ k, x'.foot = some k → w.heap.size ≤ k ∧ k < w'.heap.size) : Hp w0 w' (x' :: L) := by
  refine ⟨hb, ?_, ?_, ?_⟩
  · intro y hy
    rcases List.mem_cons.1 hy with rfl | hy
    · exact hx
    · exact Item.keep (H.holds y hy) fun k hyk => hk k (H.fresh y hy k hyk).2
  · intro y hy k hyk
    rcases List.mem_cons.1 hy with rfl | hy
    · have := hf k hyk; have := H.size; omega
    · have := H.fresh y hy k hyk
      exact ⟨this.1, by omega⟩
  · refine List.pairwise_cons.2 ⟨fun y hy k hxk hyk => ?_, H.apart⟩
    have := hf k hxk
    have := (H.fresh y hy k hyk).2
    omega
theorem Hp.alloc {w0 w : World} {L : List Item} (H : Hp w0 w L) (t : TypeId) (cs : List Value) : Hp w0 (w.alloc (.cells cs.toArray t)) (.blk w.heap.size t cs :: L) :=
  H.new (H.below.alloc H.size _) (by simp) (fun k hk => Below.heap_alloc w _ k hk) (Blk.new _ _ _) (fun k hk => by simp [Item.foot] at hk; subst hk; simp)
theorem Hp.allocA {w0 w : World} {L : List Item} (H : Hp w0 w L) (t : TypeId) (cs : Array Value) : Hp w0 (w.alloc (.cells cs t)) (.blk w.heap.size t cs.toList :: L) := by
  have := H.alloc t cs.toList
  rwa [Array.toArray_toList] at this
/-- behind a call that leaves what was there -/
theorem Hp.call {w0 w w' : World} {L : List Item} (H : Hp w0 w L) (hb : Below w.heap.size w w') : Hp w0 w' L :=
  ⟨H.below.trans (hb.mono H.size), fun x hx => Item.keep (H.holds x hx) fun k hk => hb.block k (H.fresh x hx k hk).2, fun x hx k hk => ⟨(H.fresh x hx k hk).1, Nat.lt_of_lt_of_le (H.fresh x hx k hk).2 hb.size⟩, H.apart⟩
theorem Hp.callOwn {w0 w w' : World} {L : List Item} (H : Hp w0 w L) (hb : Below w.heap.size w w') {A : Option Addr} {c : Nat} {l : List UInt8} (ho : Own w' w.heap.size A c l) : Hp w0 w' (.bytes A c l :: L) := by
  refine H.new (H.below.trans (hb.mono H.size)) hb.size (fun k hk => hb.block k hk) (ho.mono H.size) (fun k hk => ?_)
  rcases ho.form with ⟨rfl, _⟩ | ⟨g, rfl, h1, h2, _⟩
  · cases hk
  · simp [Item.foot] at hk; subst hk; exact ⟨h1, h2⟩
theorem Hp.drew {w0 w : World} {L : List Item} (H : Hp w0 w L) : Hp w0 w.drew L := ⟨H.below.drew, H.holds, H.fresh, H.apart⟩

theorem perm_front {α : Type} : ∀ (L : List α) (i : Nat) (x : α), L[i]? = some x → L.Perm (x :: L.eraseIdx i)
  | [], i, x, h => by simp at h
  | y :: L, 0, x, h => by simp at h; subst h; exact List.Perm.refl _
  | y :: L, i + 1, x, h => by
    have := perm_front L i x (by simpa using h)
    exact (this.cons y).trans (List.Perm.swap x y _)
theorem perm_set {α : Type} : ∀ (L : List α) (i : Nat) (x : α), i < L.length → (x :: L.eraseIdx i).Perm (L.set i x)
  | [], i, x, h => by simp at h
  | y :: L, 0, x, h => List.Perm.refl _
  | y :: L, i + 1, x, h => by
    have := perm_set L i x (by simpa using h)
    exact (List.Perm.swap y x _).trans (this.cons y)
theorem Hp.front {w0 w : World} {L : List Item} (H : Hp w0 w L) (i : Nat) {x : Item} (hL : L[i]? = some x) : Hp w0 w (x :: L.eraseIdx i) := by
  exact H.perm (perm_front L i x hL)
theorem Hp.back {w0 w : World} {L : List Item} (i : Nat) {x : Item} (hi : i < L.length) (H : Hp w0 w (x :: L.eraseIdx i)) : Hp w0 w (L.set i x) := H.perm (perm_set L i x hi)
theorem Hp.b {w0 w : World} {L : List Item} (H : Hp w0 w L) (i : Nat) {g : Nat} {t : TypeId} {cs : List Value} (hL : L[i]? = some (.blk g t cs)) : Blk w g t cs.toArray := H.holds _ (List.mem_of_getElem? hL)
theorem Hp.o {w0 w : World} {L : List Item} (H : Hp w0 w L) (i : Nat) {A : Option Addr} {c : Nat} {l : List UInt8} (hL : L[i]? = some (.bytes A c l)) : Own w w0.heap.size A c l := H.holds _ (List.mem_of_getElem? hL)
theorem Hp.c {w0 w : World} {L : List Item} (H : Hp w0 w L) (i : Nat) {g : Nat} {t : TypeId} {cs : List Value} (hL : L[i]? = some (.blk g t cs)) (off : Nat) {v : Value} (hv : cs[off]? = some v) : w.cell? ⟨g, off, none⟩ = some v := by
  refine (H.b i hL).c off v ?_
  simpa using hv
theorem Hp.old {w0 w : World} {L : List Item} (H : Hp w0 w L) {p : Addr} {v : Value} (h : w0.cell? p = some v) : w.cell? p = some v := (H.below.cell (World.block_lt_of_cell? _ _ h)).trans h
theorem Hp.setBlk {w0 w : World} {L : List Item} (H : Hp w0 w L) (i : Nat) {g : Nat} {t : TypeId} {cs : List Value} (hL : L[i]? = some (.blk g t cs)) (off : Nat) (v : Value) :
    Hp w0 (w.setCell ⟨g, off, none⟩ v) (L.set i (.blk g t (cs.set off v))) := by
  have hi : i < L.length := (List.getElem?_eq_some_iff.1 hL).1
  have H1 := H.front i hL
  have hfr := (H1.fresh _ List.mem_cons_self g rfl)
  refine Hp.back i hi (H1.upd (H.below.setCell hfr.1 _) (by simp) ?_ ?_ ?_)
  · intro k hk hne
    exact Below.heap_setCell _ _ _ _ (fun e => hne (by simp [Item.foot, e]))
  · have := (H1.holds _ List.mem_cons_self : Blk w g t cs.toArray).set off v
    simpa [Item.holds] using this
  · intro k hk
    simp [Item.foot] at hk
    subst hk
    exact ⟨.inl rfl, hfr.1, by simpa using hfr.2⟩
theorem setCells_heap_same (w : World) (g : Nat) (t : TypeId) : ∀ (vs : List Value) (off : Nat) (w : World) (cs : List Value), Blk w g t cs.toArray → off + vs.length ≤ cs.length →
    Blk (w.setCells g off vs) g t (cs.take off ++ vs ++ cs.drop (off + vs.length)).toArray ∧ (w.setCells g off vs).heap.size = w.heap.size ∧ (∀ k, k ≠ g → (w.setCells g off vs).heap[k]? = w.heap[k]?) ∧ ∀ B w0, B ≤ g → Below B w0 w → Below B w0 (w.setCells g off vs) := by
  intro vs
  induction vs with
  | nil =>
    intro off w cs hB _
    refine ⟨?_, rfl, fun _ _ => rfl, fun _ _ _ h => h⟩
    simpa [World.setCells] using hB
  | cons v vs ih =>
    intro off w cs hB hl
    simp only [List.length_cons] at hl
    have h1 : Blk (w.setCell ⟨g, off, none⟩ v) g t (cs.set off v).toArray := by
      have := hB.set off v
      simpa using this
    obtain ⟨i1, i2, i3, i4⟩ := ih (off + 1) _ _ h1 (by rw [List.length_set]; omega)
    have e : w.setCells g off (v :: vs) = (w.setCell ⟨g, off, none⟩ v).setCells g (off + 1) vs := rfl
    rw [e]
    refine ⟨?_, i2.trans (by simp), fun k hk => (i3 k hk).trans (Below.heap_setCell _ _ _ _ hk), fun B w0 hB hb => i4 B w0 hB (hb.setCell hB _)⟩
    have : (cs.set off v).take (off + 1) ++ vs ++ (cs.set off v).drop (off + 1 + vs.length) = cs.take off ++ v :: vs ++ cs.drop (off + (v :: vs).length) := by
      rw [List.drop_set, if_pos (by omega), List.take_set, List.length_cons]
      have h2 : (cs.take (off + 1)).set off v = cs.take off ++ [v] := by
        rw [List.take_succ_eq_append_getElem (by omega), List.set_append_right _ _ (by simp; omega)]
        simp [Nat.min_eq_left (show off ≤ cs.length by omega)]
      rw [h2, show off + 1 + vs.length = off + (vs.length + 1) by omega]
      simp
    rwa [this] at i1
theorem Hp.setRange {w0 w : World} {L : List Item} (H : Hp w0 w L) (i : Nat) {g : Nat} {t : TypeId} {cs : List Value} (hL : L[i]? = some (.blk g t cs)) (off : Nat) (vs : List Value) (hl : off + vs.length ≤ cs.length) :
    Hp w0 (w.setCells g off vs) (L.set i (.blk g t (cs.take off ++ vs ++ cs.drop (off + vs.length)))) := by
  have hi : i < L.length := (List.getElem?_eq_some_iff.1 hL).1
  have H1 := H.front i hL
  have hfr := (H1.fresh _ List.mem_cons_self g rfl)
  obtain ⟨h1, h2, h3, h4⟩ := setCells_heap_same w g t vs off w cs (H1.holds _ List.mem_cons_self) hl
  refine Hp.back i hi (H1.upd (h4 _ _ hfr.1 H.below) (by omega) ?_ h1 ?_)
  · intro k hk hne
    exact h3 k (fun e => hne (by simp [Item.foot, e]))
  · intro k hk
    simp [Item.foot] at hk
    subst hk
    exact ⟨.inl rfl, hfr.1, by omega⟩
theorem Hp.range {w0 w : World} {L : List Item} (H : Hp w0 w L) (i : Nat) {g : Nat} {t : TypeId} {cs : List Value} (hL : L[i]? = some (.blk g t cs)) (off n : Nat) {vs : List Value} (hv : (cs.drop off).take n = vs) : w.rangeAt g off vs := by
  intro j v hj
  subst hv
  have hj2 : j < n := by have := (List.getElem?_eq_some_iff.1 hj).1; simp at this; omega
  refine H.c i hL (off + j) ?_
  rw [List.getElem?_take_of_lt hj2, List.getElem?_drop] at hj
  exact hj
theorem Hp.there {w0 w : World} {L : List Item} (H : Hp w0 w L) (i : Nat) {g : Nat} {t : TypeId} {cs : List Value} (hL : L[i]? = some (.blk g t cs)) (off n : Nat) (hv : off + n ≤ cs.length) : w.there g off n := by
  intro j hj
  refine ⟨?_, (H.b i hL).frozen _⟩
  rw [(H.b i hL).cell]
  simp
  omega
theorem ownsRow_foot {w : World} {base : Nat} {e : TypeId} {size : Nat} {A : Option Addr} {n c : Nat} {xs : List Value} (h : w.ownsRow base e size (.slice A n c) n xs) (k : Nat) (hk : A.map (·.block) = some k) : base ≤ k ∧ k < w.heap.size := by
  rcases h.2 with ⟨hv, _⟩ | ⟨g, cap, cur, hv, hbb, hg, _⟩
  · injection hv with h1
    subst h1
    cases hk
  · injection hv with h1
    subst h1
    simp at hk
    subst hk
    exact ⟨hbb, (Array.getElem?_eq_some_iff.1 hg).1⟩
/-- the world behind an append to a slice of the call's own -/
theorem Hp.appd {w0 w w' : World} {L : List Item} (H : Hp w0 w L) (i : Nat) {e : TypeId} {size : Nat} {A : Option Addr} {n c : Nat} {xs : List Value} (hL : L[i]? = some (.own e size A n c xs)) {A' : Option Addr} {n' c' : Nat} {xs' : List Value}
    (ho : w'.ownsRow w0.heap.size e size (.slice A' n' c') n' xs') (hb : Below w0.heap.size w w') (hg : w.grownBy w' (Value.slice A n c).ownBlock)
    (hn : (Value.slice A' n' c').ownBlock = (Value.slice A n c).ownBlock ∨ (Value.slice A' n' c').ownBlock = some w.heap.size) : Hp w0 w' (L.set i (.own e size A' n' c' xs')) := by
  have hi : i < L.length := (List.getElem?_eq_some_iff.1 hL).1
  have H1 := H.front i hL
  have hf : ∀ B n c, (Value.slice B n c).ownBlock = (Item.own e size B n c xs).foot := fun B n c => by cases B <;> rfl
  have hf' : ∀ B n c, (Value.slice B n c).ownBlock = (Item.own e size B n c xs').foot := fun B n c => by cases B <;> rfl
  refine Hp.back i hi (H1.upd (H.below.trans hb) hg.size ?_ ho ?_)
  · intro k hk hne
    exact hg.block k hk (fun e => hne (by rw [← hf, e]))
  · intro k hk
    have h1 := ownsRow_foot ho k (by simpa [Item.foot] using hk)
    refine ⟨?_, h1⟩
    rw [hf', hf', hk] at hn
    rcases hn with h | h
    · left; rw [h]; cases A <;> rfl
    · right; injection h with h; omega
theorem Hp.appendRun {w0 w : World} {L : List Item} (H : Hp w0 w L) (i : Nat) {e : TypeId} {size : Nat} {A : Option Addr} {n c : Nat} {xs : List Value} (hL : L[i]? = some (.own e size A n c xs))
    (t ty : TypeId) (ti : TypeInfo) (z : Value) (bytes : Nat) (ht : Try.prog.underlying t = some (.slice e)) (hi : Try.prog.info? e = some ti) (hz : ti.zero = some z) (hsize : ti.size = size) (hby : ti.bytes = bytes) (hzs : z.cells.size = size) (hsz : 0 < size)
    (a : Addr) (m c2 : Nat) (news : List Value) (hl : news.length = m * size) (hnews : ∀ j u, news[j]? = some u → w.cell? (a.add j) = some u) (h1 : ∀ u ∈ news, u.oneCell' = true) (h63 : n + m ≤ maxLen) (hbytes : (n + m) * bytes ≤ 140737488355328) (hm : 0 < n + m) :
    ∃ A' c' w', (Builtin.append_ #[t, t] ty #[.slice A n c, .slice (some a) m c2]).run Try.prog w = .ok (.slice A' (n + m) c') w' ∧ Hp w0 w' (L.set i (.own e size A' (n + m) c' (xs ++ news))) := by
  have hown : w.ownsRow w0.heap.size e size (.slice A n c) n xs := H.holds _ (List.mem_of_getElem? hL)
  obtain ⟨v', w', hrun, h2, h3, _, h5⟩ := run_append_own_at (P := Try.prog) w w0.heap.size t ty e ti z size bytes ht hi hz hsize hby hzs hsz _ n xs hown a m c2 news hl hnews h1 h63 hbytes H.size
  have hv : ∃ A' c', v' = .slice A' (n + m) c' := by
    rcases h2.2 with ⟨hv, hn⟩ | ⟨g, cap, cur, hv, _⟩
    · omega
    · exact ⟨_, _, hv⟩
  obtain ⟨A', c', rfl⟩ := hv
  exact ⟨A', c', w', hrun, H.appd i hL h2 ((Below.refl _ _).grown h3 H.size (fun k hk => (World.ownsRow.lt hown k hk).1)) h3 h5⟩
/-- bytes behind new bytes -/
theorem Hp.wlAppendBytes {ops : Array Oper} {rest : List Oper} {o : Oper} {a : Act} {Q : Exit → Act → World → Prop} {w0 w : World} {L : List Item} (H : Hp w0 w L) (hgd : o.guard = none) (s x : Operand)
    (ho : o.op = .call { callee := .builtin .append, args := #[s, x], argTypes := #[22, 22] })
    (i : Nat) (A : Option Addr) (n c : Nat) (l : List UInt8) (hs : a.eval s = .slice A n c) (hL : L[i]? = some (.bytes A c l)) (hn : n = l.length)
    (A2 : Option Addr) (m c2 : Nat) (news : List UInt8) (hx : a.eval x = .slice A2 m c2) (hm : m = news.length) (hr : Rd w A2 news) (hlen : l.length + news.length ≤ 140737488355328)
    (h : ∀ A' c' w', Hp w0 w' (L.set i (.bytes A' c' (l ++ news))) → wpList Try.prog ops Q rest (a.put o.dst (.slice A' (l ++ news).length c')) w') : wpList Try.prog ops Q (o :: rest) a w := by
  obtain ⟨ti, hi, hz0, hz1, hz2⟩ := info_parts u8_info
  subst hn hm
  refine wpList_plain hgd fun _ hK => ?_
  have hown : Own w w0.heap.size A c l := H.o i hL
  have key : ∃ A' c' w', (Builtin.append_ #[22, 22] o.type #[.slice A l.length c, .slice A2 news.length c2]).run Try.prog w = .ok (.slice A' (l ++ news).length c') w' ∧ Hp w0 w' (L.set i (.bytes A' c' (l ++ news))) := by
    by_cases h0 : news = []
    · subst h0
      have hiL : i < L.length := (List.getElem?_eq_some_iff.1 hL).1
      have hLe : L.set i (.bytes A c l) = L := by
        have := (List.getElem?_eq_some_iff.1 hL).2
        rw [← this, List.set_getElem_self]
      refine ⟨A, c, w, ?_, by rw [List.append_nil, hLe]; exact H⟩
      rw [List.append_nil]
      cases A2 with
      | none => exact run_append_of_nil (P := Try.prog) w w0.heap.size 22 o.type _ ti 1 u8_slice hi _ _ _ hown c2
      | some ad =>
        have h00 : (loadCells ad 0).run Try.prog w = .ok #[] w := rfl
        rcases hown.2 with ⟨hv, hn⟩ | ⟨g, cap, cur, hv, _, _, hnc, _⟩
        · rw [hv]; simp [Builtin.append_, run_underlying u8_slice, sizeOf, typeInfo, hi, Builtin.lenOf, Builtin.firstCells, h00]
        · rw [hv]; simp [Builtin.append_, run_underlying u8_slice, sizeOf, typeInfo, hi, Builtin.lenOf, Builtin.firstCells, hnc, storeCells, h00]
    · obtain ⟨b, oo, rfl, hc⟩ := hr h0
      have hpos := List.length_pos_iff.2 h0
      obtain ⟨A', c', w', hrun, hH⟩ := H.appendRun i hL 22 o.type ti _ 1 u8_slice hi hz0 hz1 hz2 rfl (by omega) ⟨b, oo, none⟩ news.length c2 (bvs news) (by simp [bvs])
        (by
          intro j u hu
          have hj : j < news.length := by have := (List.getElem?_eq_some_iff.1 hu).1; rwa [bvs_length] at this
          rw [Addr.add_lit, hc j hj, ← hu, bvs_get _ _ hj])
        (bvs_one _) (by have := le_maxLen; omega) (by omega) (by omega)
      refine ⟨A', c', w', by rw [List.length_append]; exact hrun, ?_⟩
      unfold Item.bytes
      rw [bvs_append, List.length_append]
      exact hH
  obtain ⟨A', c', w', hrun, hH⟩ := key
  unfold Oper.wp execOp
  simp only [ho, resolve, invoke, builtin, Sem.run_bind, Sem.run_pure, Result.andThen_ok, List.map_toArray, List.map_cons, List.map_nil, hs, hx, hrun]
  exact hK _ _ (h A' c' w' hH)

/-! The walk's operations. -/
def zeroC (P : Program) (ty : TypeId) : Option (Array Value) := (P.info? ty).bind fun i => i.zero.map Value.cells
def sizeT (P : Program) (ty : TypeId) : Option Nat := (P.info? ty).map (·.size)
def rowT (P : Program) (ty : TypeId) : Bool := match P.underlying ty with | some (.struct _) | some (.array _ _) => true | _ => false
def cellT (P : Program) (ty : TypeId) : Bool := match P.underlying ty with | some (.struct _) | some (.array _ _) => false | some _ => true | none => false
def oneT (P : Program) (ty : TypeId) : Bool := cellT P ty && (sizeT P ty == some 1)
theorem oneT_c {P : Program} {ty : TypeId} (h : oneT P ty = true) : cellT P ty = true := by unfold oneT at h; simp only [Bool.and_eq_true] at h; exact h.1
theorem oneT_s {P : Program} {ty : TypeId} (h : oneT P ty = true) : sizeT P ty = some 1 := by unfold oneT at h; simp only [Bool.and_eq_true, beq_iff_eq] at h; exact h.2
section
variable {P : Program} {ops : Array Oper} {rest : List Oper} {o : Oper} {a : Act} {w0 w : World} {Q : Exit → Act → World → Prop} {L : List Item}

theorem run_loadVar_cell {ty : TypeId} (hc : cellT P ty = true) {p : Addr} {v : Value} (h : w.cell? p = some v) : (loadVar ty p).run P w = .ok v w := by
  unfold cellT at hc
  cases hd : P.underlying ty with
  | none => simp [hd] at hc
  | some d =>
    have hagg : (isAgg ty).run P w = .ok false w := by
      unfold isAgg
      rw [Sem.run_bind, run_underlying hd w]
      cases d <;> simp_all
    simp [loadVar, Sem.run_bind, hagg, h]
theorem run_loadAt_cell {ty : TypeId} (hc : cellT P ty = true) {p : Addr} {v : Value} (h : w.cell? p = some v) : (Instr.loadAt ty (.pointer (some p))).run P w = .ok v w := by
  simp only [Instr.loadAt, Instr.sureAddr, Sem.run_bind, Sem.run_pure, Result.andThen_ok, run_loadVar_cell hc h]
theorem run_loadAt_row {ty : TypeId} (hc : rowT P ty = true) {g off : Nat} {vs : List Value} (hn : sizeT P ty = some vs.length) (h : w.rangeAt g off vs) : (Instr.loadAt ty (.pointer (some ⟨g, off, none⟩))).run P w = .ok (.agg vs.toArray) w := by
  unfold rowT at hc
  split at hc
  · rename_i hd; exact run_loadAt_mid w g off ty vs _ h hd rfl hn
  · rename_i hd; exact run_loadAt_mid w g off ty vs _ h hd rfl hn
  · cases hc

/-- x is item i of the list -/
inductive Has : List Item → Nat → Item → Prop
  | z {x : Item} {L : List Item} : Has (x :: L) 0 x
  | s {x y : Item} {L : List Item} {i : Nat} (h : Has L i x) : Has (y :: L) (i + 1) x
theorem Has.get {L : List Item} {i : Nat} {x : Item} (h : Has L i x) : L[i]? = some x := by
  induction h with
  | z => rfl
  | s h ih => simpa using ih
theorem Hp.wlAlloc (H : Hp w0 w L) (ty : TypeId) (ho : o.op = .alloc ty) (hw : Region.wanted o (yielded ops a.tmps) = true) (zs : List Value) (hz : zeroC P ty = some zs.toArray)
    (h : ∀ g w', Hp w0 w' (.blk g ty zs :: L) → wpList P ops Q rest (a.put o.dst (.pointer (some ⟨g, 0, none⟩))) w') : wpList P ops Q (o :: rest) a w := by
  refine BigFrame.wpList_want hw fun K hK => ?_
  obtain ⟨i, hi, hz⟩ := Option.bind_eq_some_iff.1 hz
  obtain ⟨z, hz1, hz2⟩ := Option.map_eq_some_iff.1 hz
  have := h _ _ (H.alloc ty zs)
  unfold Oper.wp
  simp [execOp, ho, Instr.alloc, zeroValue, typeInfo, hi, hz1, newVar, newRow, hz2]
  exact hK _ _ this
theorem Hp.wlBox (H : Hp w0 w L) (ty : TypeId) (x : Operand) (ho : o.op = .box ty x) (hw : Region.wanted o (yielded ops a.tmps) = true) (v : Value) (hx : a.eval x = v) (vs : List Value) (hv : v.cells = vs.toArray)
    (h : ∀ g w', Hp w0 w' (.blk g ty vs :: L) → wpList P ops Q rest (a.put o.dst (.pointer (some ⟨g, 0, none⟩))) w') : wpList P ops Q (o :: rest) a w := by
  refine BigFrame.wpList_want hw fun K hK => ?_
  have := h _ _ (H.alloc ty vs)
  unfold Oper.wp
  simp [execOp, ho, Instr.box, newVar, newRow, hx, hv]
  exact hK _ _ this
theorem Hp.wlLd (H : Hp w0 w L) (ty : TypeId) (x : Operand) (ho : o.op = .load ty x) (hw : Region.wanted o (yielded ops a.tmps) = true) (g off : Nat) (hx : a.eval x = .pointer (some ⟨g, off, none⟩)) (hc : cellT P ty = true)
    (i : Nat) (t : TypeId) (cs : List Value) (hL : Has L i (.blk g t cs)) (v : Value) (hv : cs[off]? = some v) (h : wpList P ops Q rest (a.put o.dst v) w) : wpList P ops Q (o :: rest) a w := by
  refine BigFrame.wpList_want hw fun K hK => ?_
  have := run_loadAt_cell (P := P) hc (H.c i hL.get off hv)
  unfold Oper.wp
  simp [execOp, ho, hx, this]
  exact hK _ _ h
theorem Hp.wlLdOld (H : Hp w0 w L) (ty : TypeId) (x : Operand) (ho : o.op = .load ty x) (hw : Region.wanted o (yielded ops a.tmps) = true) (p : Addr) (hx : a.eval x = .pointer (some p)) (v : Value) (hv : w0.cell? p = some v) (hc : cellT P ty = true)
    (h : wpList P ops Q rest (a.put o.dst v) w) : wpList P ops Q (o :: rest) a w := by
  refine BigFrame.wpList_want hw fun K hK => ?_
  have := run_loadAt_cell (P := P) hc (H.old hv)
  unfold Oper.wp
  simp [execOp, ho, hx, this]
  exact hK _ _ h
/-- a whole block -/
theorem Hp.wlLdAll (H : Hp w0 w L) (ty : TypeId) (x : Operand) (ho : o.op = .load ty x) (hw : Region.wanted o (yielded ops a.tmps) = true) (g : Nat) (hx : a.eval x = .pointer (some ⟨g, 0, none⟩)) (n : Nat) (hn : sizeT P ty = some n)
    (i : Nat) (t : TypeId) (cs : List Value) (hL : Has L i (.blk g t cs)) (hl : cs.length = n) (hc : rowT P ty = true) (h : wpList P ops Q rest (a.put o.dst (.agg cs.toArray)) w) : wpList P ops Q (o :: rest) a w := by
  refine BigFrame.wpList_want hw fun K hK => ?_
  have := run_loadAt_row (P := P) hc (by rw [hl]; exact hn) (H.range i hL.get 0 n (vs := cs) (by rw [List.drop_zero, ← hl, List.take_length]))
  unfold Oper.wp
  simp [execOp, ho, hx, this]
  exact hK _ _ h
theorem Hp.wlLdRow (H : Hp w0 w L) (ty : TypeId) (x : Operand) (ho : o.op = .load ty x) (hw : Region.wanted o (yielded ops a.tmps) = true) (g off : Nat) (hx : a.eval x = .pointer (some ⟨g, off, none⟩)) (vs : List Value) (hn : sizeT P ty = some vs.length)
    (i : Nat) (t : TypeId) (cs : List Value) (hL : Has L i (.blk g t cs)) (hv : (cs.drop off).take vs.length = vs) (hc : rowT P ty = true) (h : wpList P ops Q rest (a.put o.dst (.agg vs.toArray)) w) : wpList P ops Q (o :: rest) a w := by
  refine BigFrame.wpList_want hw fun K hK => ?_
  have := run_loadAt_row (P := P) hc hn (H.range i hL.get off _ hv)
  unfold Oper.wp
  simp [execOp, ho, hx, this]
  exact hK _ _ h
theorem run_storeAt_cell {ty : TypeId} (hn : sizeT P ty = some 1) {w : World} {p : Addr} {v u : Value} (h : w.cell? p = some u) (hf : w.frozen? p = false) (h1 : v.oneCell' = true) : (Instr.storeAt ty (.pointer (some p)) v).run P w = .ok () (w.setCell p v) := by
  have hv : v.cells = #[v] := by cases v <;> first | rfl | cases h1
  obtain ⟨b, o, sp⟩ := p
  have hsp : sp = none := World.cell?_spot h
  subst hsp
  have h2 := run_storeCells_cells (P := P) b o [v] 0 w (fun j hj => by simp at hj; subst hj; simp [h]) (fun j hj => by simp at hj; subst hj; simpa using hf) (by simpa using h1)
  unfold sizeT at hn
  cases hq : P.info? ty with
  | none => simp [hq] at hn
  | some i =>
    have hs : i.size = 1 := by simpa [hq] using hn
    have h3 : (storeVar ty ⟨b, o, none⟩ v).run P w = .ok () (w.setCell ⟨b, o, none⟩ v) := by
      simp only [Nat.add_zero] at h2
      have e : w.setCells b o [v] = w.setCell ⟨b, o, none⟩ v := rfl
      rw [e] at h2
      simp [storeVar, sizeOf, typeInfo, hq, hv, hs, h2]
    simp only [Instr.storeAt, Instr.sureAddr, Sem.run_bind, Sem.run_pure, Result.andThen_ok, h3]
theorem Hp.wlSt (H : Hp w0 w L) (ty : TypeId) (x y : Operand) (ho : o.op = .store ty x y) (hw : Region.wanted o (yielded ops a.tmps) = true) (g off : Nat) (hx : a.eval x = .pointer (some ⟨g, off, none⟩))
    (i : Nat) (t : TypeId) (cs : List Value) (hL : Has L i (.blk g t cs)) (v : Value) (hy : a.eval y = v) (h1 : v.oneCell' = true) (u : Value) (hl : cs[off]? = some u) (hn : sizeT P ty = some 1)
    (h : ∀ w', Hp w0 w' (L.set i (.blk g t (cs.set off v))) → wpList P ops Q rest (a.put o.dst undef) w') : wpList P ops Q (o :: rest) a w := by
  refine BigFrame.wpList_want hw fun K hK => ?_
  have := run_storeAt_cell (P := P) hn (H.c i hL.get off hl) ((H.b i hL.get).frozen _) h1
  have h2 := h _ (H.setBlk i hL.get off v)
  unfold Oper.wp
  simp [execOp, ho, hx, hy, this]
  exact hK _ _ h2
/-- into the midst of a block -/
theorem Hp.wlStRow (H : Hp w0 w L) (ty : TypeId) (x y : Operand) (ho : o.op = .store ty x y) (hw : Region.wanted o (yielded ops a.tmps) = true) (g off : Nat) (hx : a.eval x = .pointer (some ⟨g, off, none⟩)) (vs : List Value) (hy : a.eval y = .agg vs.toArray) (n : Nat) (hn : sizeT P ty = some n) (hln : vs.length = n)
    (i : Nat) (t : TypeId) (cs : List Value) (hL : Has L i (.blk g t cs)) (h1 : vs.all (·.oneCell') = true) (cs' : List Value) (hcs : cs.take off ++ (vs ++ cs.drop (off + n)) = cs') (m : Nat) (hm : cs.length = m) (hl : off + n ≤ m)
    (h : ∀ w', Hp w0 w' (L.set i (.blk g t cs')) → wpList P ops Q rest (a.put o.dst undef) w') : wpList P ops Q (o :: rest) a w := by
  refine BigFrame.wpList_want hw fun K hK => ?_
  subst hln hm
  have := run_storeAt_mid (P := P) w g off ty vs.toArray (H.there i hL.get off _ (by simpa using hl)) (by rw [List.size_toArray]; exact hn) (by simpa using h1)
  have h3 := H.setRange i hL.get off vs hl
  rw [List.append_assoc, hcs] at h3
  have h2 := h _ h3
  unfold Oper.wp
  simp [execOp, ho, hx, hy, this]
  exact hK _ _ h2

/-! .. the operation written out, what is to be found behind '∃'. -/
variable {d : Option Tmp} {ty tt : TypeId} {x y : Operand} {ps : String} {af : Array Edge} {gd : Option (Nat × Bool)}
theorem Hp.box (H : Hp w0 w L) (h : Region.wanted { dst := d, op := .box ty x, type := tt, pos := ps, after := af, guard := gd } (yielded ops a.tmps) = true ∧ ∃ vs : List Value, (a.eval x).cells = vs.toArray ∧
    ∀ g w', Hp w0 w' (.blk g ty vs :: L) → wpList P ops Q rest (a.put d (.pointer (some ⟨g, 0, none⟩))) w') :
    wpList P ops Q ({ dst := d, op := .box ty x, type := tt, pos := ps, after := af, guard := gd } :: rest) a w := by
  obtain ⟨h1, vs, h2, h3⟩ := h
  exact H.wlBox ty x rfl h1 _ rfl vs h2 h3
theorem Hp.allo (H : Hp w0 w L) (h : Region.wanted { dst := d, op := .alloc ty, type := tt, pos := ps, after := af, guard := gd } (yielded ops a.tmps) = true ∧ ∃ vs : List Value, zeroC P ty = some vs.toArray ∧
    ∀ g w', Hp w0 w' (.blk g ty vs :: L) → wpList P ops Q rest (a.put d (.pointer (some ⟨g, 0, none⟩))) w') :
    wpList P ops Q ({ dst := d, op := .alloc ty, type := tt, pos := ps, after := af, guard := gd } :: rest) a w := by
  obtain ⟨h1, vs, h2, h3⟩ := h
  exact H.wlAlloc ty rfl h1 vs h2 h3
theorem Hp.ld (H : Hp w0 w L) (h : Region.wanted { dst := d, op := .load ty x, type := tt, pos := ps, after := af, guard := gd } (yielded ops a.tmps) = true ∧ oneT P ty = true ∧ ∃ g off, a.eval x = .pointer (some ⟨g, off, none⟩) ∧
    ∃ i t cs, Has L i (.blk g t cs) ∧ ∃ v, cs[off]? = some v ∧ wpList P ops Q rest (a.put d v) w) :
    wpList P ops Q ({ dst := d, op := .load ty x, type := tt, pos := ps, after := af, guard := gd } :: rest) a w := by
  obtain ⟨h1, h2, g, off, h3, i, t, cs, h4, v, h5, h6⟩ := h
  exact H.wlLd ty x rfl h1 g off h3 (oneT_c h2) i t cs h4 v h5 h6
theorem Hp.ldo (H : Hp w0 w L) (h : Region.wanted { dst := d, op := .load ty x, type := tt, pos := ps, after := af, guard := gd } (yielded ops a.tmps) = true ∧ oneT P ty = true ∧ ∃ p, a.eval x = .pointer (some p) ∧
    ∃ v, w0.cell? p = some v ∧ wpList P ops Q rest (a.put d v) w) :
    wpList P ops Q ({ dst := d, op := .load ty x, type := tt, pos := ps, after := af, guard := gd } :: rest) a w := by
  obtain ⟨h1, h2, p, h3, v, h5, h6⟩ := h
  exact H.wlLdOld ty x rfl h1 p h3 v h5 (oneT_c h2) h6
theorem Hp.lda (H : Hp w0 w L) (h : Region.wanted { dst := d, op := .load ty x, type := tt, pos := ps, after := af, guard := gd } (yielded ops a.tmps) = true ∧ rowT P ty = true ∧ ∃ n, sizeT P ty = some n ∧ ∃ g, a.eval x = .pointer (some ⟨g, 0, none⟩) ∧
    ∃ i t cs, Has L i (.blk g t cs) ∧ cs.length = n ∧ wpList P ops Q rest (a.put d (.agg cs.toArray)) w) :
    wpList P ops Q ({ dst := d, op := .load ty x, type := tt, pos := ps, after := af, guard := gd } :: rest) a w := by
  obtain ⟨h1, h2, n, h3, g, h4, i, t, cs, h5, h6, h7⟩ := h
  exact H.wlLdAll ty x rfl h1 g h4 n h3 i t cs h5 h6 h2 h7
theorem Hp.ldr (vs : List Value) (H : Hp w0 w L) (h : Region.wanted { dst := d, op := .load ty x, type := tt, pos := ps, after := af, guard := gd } (yielded ops a.tmps) = true ∧ rowT P ty = true ∧ sizeT P ty = some vs.length ∧ ∃ g off, a.eval x = .pointer (some ⟨g, off, none⟩) ∧
    ∃ i t cs, Has L i (.blk g t cs) ∧ (cs.drop off).take vs.length = vs ∧ wpList P ops Q rest (a.put d (.agg vs.toArray)) w) :
    wpList P ops Q ({ dst := d, op := .load ty x, type := tt, pos := ps, after := af, guard := gd } :: rest) a w := by
  obtain ⟨h1, h2, h3, g, off, h4, i, t, cs, h5, h6, h7⟩ := h
  exact H.wlLdRow ty x rfl h1 g off h4 vs h3 i t cs h5 h6 h2 h7
theorem Hp.sto (H : Hp w0 w L) (h : Region.wanted { dst := d, op := .store ty x y, type := tt, pos := ps, after := af, guard := gd } (yielded ops a.tmps) = true ∧ oneT P ty = true ∧ ∃ g off, a.eval x = .pointer (some ⟨g, off, none⟩) ∧
    ∃ i t cs, Has L i (.blk g t cs) ∧ (∃ u, cs[off]? = some u) ∧ (a.eval y).oneCell' = true ∧ ∀ w', Hp w0 w' (L.set i (.blk g t (cs.set off (a.eval y)))) → wpList P ops Q rest (a.put d undef) w') :
    wpList P ops Q ({ dst := d, op := .store ty x y, type := tt, pos := ps, after := af, guard := gd } :: rest) a w := by
  obtain ⟨h1, h2, g, off, h3, i, t, cs, h4, ⟨u, h5⟩, h6, h7⟩ := h
  exact H.wlSt ty x y rfl h1 g off h3 i t cs h4 _ rfl h6 u h5 (oneT_s h2) h7
theorem Hp.sta (H : Hp w0 w L) (h : Region.wanted { dst := d, op := .store ty x y, type := tt, pos := ps, after := af, guard := gd } (yielded ops a.tmps) = true ∧ ∃ n, sizeT P ty = some n ∧ ∃ g, a.eval x = .pointer (some ⟨g, 0, none⟩) ∧
    ∃ vs : List Value, a.eval y = .agg vs.toArray ∧ vs.length = n ∧ ∃ i t cs, Has L i (.blk g t cs) ∧ vs.all (·.oneCell') = true ∧ cs.length = n ∧
    ∀ w', Hp w0 w' (L.set i (.blk g t vs)) → wpList P ops Q rest (a.put d undef) w') :
    wpList P ops Q ({ dst := d, op := .store ty x y, type := tt, pos := ps, after := af, guard := gd } :: rest) a w := by
  obtain ⟨h1, n, h2, g, h3, vs, h4, h5, i, t, cs, h6, h7, h8, h11⟩ := h
  refine H.wlStRow ty x y rfl h1 g 0 h3 vs h4 n h2 h5 i t cs h6 h7 vs ?_ n h8 (by omega) h11
  rw [List.take_zero, List.nil_append, Nat.zero_add, ← h8, List.drop_length, List.append_nil]
theorem Hp.bld (H : Hp w0 w L) {t : TypeId} {parts : Array (Nat × Operand)} (h : Region.wanted { dst := d, op := .build t parts, type := tt, pos := ps, after := af, guard := gd } (yielded ops a.tmps) = true ∧
    ∃ cs : List Value, P.built t (parts.map fun (i, x) => (i, a.eval x)).toList = some cs.toArray ∧ wpList P ops Q rest (a.put d (.agg cs.toArray)) w) :
    wpList P ops Q ({ dst := d, op := .build t parts, type := tt, pos := ps, after := af, guard := gd } :: rest) a w := by
  obtain ⟨h1, cs, h2, h3⟩ := h
  refine BigFrame.wpList_want h1 fun K hK => ?_
  have := run_build (P := P) w t _ _ h2
  unfold Oper.wp
  simp [execOp, this]
  exact hK _ _ h3
theorem Hp.str (H : Hp w0 w L) (h : Region.wanted { dst := d, op := .store ty x y, type := tt, pos := ps, after := af, guard := gd } (yielded ops a.tmps) = true ∧ ∃ n, sizeT P ty = some n ∧ ∃ g off, a.eval x = .pointer (some ⟨g, off, none⟩) ∧
    ∃ vs : List Value, a.eval y = .agg vs.toArray ∧ vs.length = n ∧ ∃ i t cs, Has L i (.blk g t cs) ∧ vs.all (·.oneCell') = true ∧ ∃ cs', cs.take off ++ (vs ++ cs.drop (off + n)) = cs' ∧ ∃ m, cs.length = m ∧ off + n ≤ m ∧
    ∀ w', Hp w0 w' (L.set i (.blk g t cs')) → wpList P ops Q rest (a.put d undef) w') :
    wpList P ops Q ({ dst := d, op := .store ty x y, type := tt, pos := ps, after := af, guard := gd } :: rest) a w := by
  obtain ⟨h1, n, h2, g, off, h3, vs, h4, h5, i, t, cs, h6, h7, cs', h8, m, h9, h10, h11⟩ := h
  exact H.wlStRow ty x y rfl h1 g off h3 vs h4 n h2 h5 i t cs h6 h7 cs' h8 m h9 h10 h11

/-! A region that draws its order. -/
def HpS (w0 : World) (L : List Item) := { w : World // Hp w0 w L }
theorem wp_region_hp (H : Hp w0 w L) {id : Nat} {l : List Oper} (hm : P.follows .mixedOrders = true) (hB : Region.lexB .any l.toArray = true)
    (h : ∀ [Nonempty (HpS w0 L)], wpQuiet P l.toArray (fun w' => ∃ x : HpS w0 L, w' = x.val) (fun a' => ∀ w', (∃ x : HpS w0 L, w' = x.val) → Q .normal a' w') l a) : (Code.region id l.toArray true).wp P Q a w := by
  haveI : Nonempty (HpS w0 L) := ⟨⟨w, H⟩⟩
  exact wp_region_quiet (C := fun w' => ∃ x : HpS w0 L, w' = x.val) hm hB ⟨⟨_, H.drew⟩, rfl⟩ (by simpa using h)
theorem quiet_of_run {K : Act → Prop} {C : World → Prop} {o : Oper} {a : Act} (v : Value) (h : ∀ w, C w → (execOp a.eval o).run P w = .ok (.value v) w) (hk : K (a.put o.dst v)) : o.quiet P a C K :=
  ⟨v, fun w hw => by unfold Oper.quietAt; rw [h w hw]; exact ⟨rfl, rfl⟩, hk⟩
theorem hq_ld {Q : Act → Prop} (h : Region.wanted { dst := d, op := .load ty x, type := tt, pos := ps, after := af, guard := gd } (yielded ops a.tmps) = true ∧ oneT P ty = true ∧ ∃ g off, a.eval x = .pointer (some ⟨g, off, none⟩) ∧
    ∃ i t cs, Has L i (.blk g t cs) ∧ ∃ v, cs[off]? = some v ∧ wpQuiet P ops (fun w' => ∃ x : HpS w0 L, w' = x.val) Q rest (a.put d v)) :
    wpQuiet P ops (fun w' => ∃ x : HpS w0 L, w' = x.val) Q ({ dst := d, op := .load ty x, type := tt, pos := ps, after := af, guard := gd } :: rest) a := by
  obtain ⟨h1, h2, g, off, hx, i, t, cs, hL, v, hv, h⟩ := h
  refine BigFrame.wpQuiet_want h1 fun K hK => quiet_of_run v ?_ (hK _ h)
  rintro w ⟨⟨w, H⟩, rfl⟩
  have := run_loadAt_cell (P := P) (oneT_c h2) (H.c i hL.get off hv)
  simp [execOp, hx, this]
theorem hq_ldo {Q : Act → Prop} (h : Region.wanted { dst := d, op := .load ty x, type := tt, pos := ps, after := af, guard := gd } (yielded ops a.tmps) = true ∧ oneT P ty = true ∧ ∃ p, a.eval x = .pointer (some p) ∧
    ∃ v, w0.cell? p = some v ∧ wpQuiet P ops (fun w' => ∃ x : HpS w0 L, w' = x.val) Q rest (a.put d v)) :
    wpQuiet P ops (fun w' => ∃ x : HpS w0 L, w' = x.val) Q ({ dst := d, op := .load ty x, type := tt, pos := ps, after := af, guard := gd } :: rest) a := by
  obtain ⟨h1, h2, p, hx, v, hv, h⟩ := h
  refine BigFrame.wpQuiet_want h1 fun K hK => quiet_of_run v ?_ (hK _ h)
  rintro w ⟨⟨w, H⟩, rfl⟩
  have := run_loadAt_cell (P := P) (oneT_c h2) (H.old hv)
  simp [execOp, hx, this]
theorem hq_lda {Q : Act → Prop} (h : Region.wanted { dst := d, op := .load ty x, type := tt, pos := ps, after := af, guard := gd } (yielded ops a.tmps) = true ∧ rowT P ty = true ∧ ∃ n, sizeT P ty = some n ∧ ∃ g, a.eval x = .pointer (some ⟨g, 0, none⟩) ∧
    ∃ i t cs, Has L i (.blk g t cs) ∧ cs.length = n ∧ wpQuiet P ops (fun w' => ∃ x : HpS w0 L, w' = x.val) Q rest (a.put d (.agg cs.toArray))) :
    wpQuiet P ops (fun w' => ∃ x : HpS w0 L, w' = x.val) Q ({ dst := d, op := .load ty x, type := tt, pos := ps, after := af, guard := gd } :: rest) a := by
  obtain ⟨h1, h2, n, h3, g, hx, i, t, cs, hL, hl, h⟩ := h
  refine BigFrame.wpQuiet_want h1 fun K hK => quiet_of_run _ ?_ (hK _ h)
  rintro w ⟨⟨w, H⟩, rfl⟩
  have := run_loadAt_row (P := P) h2 (by rw [hl]; exact h3) (H.range i hL.get 0 n (vs := cs) (by rw [List.drop_zero, ← hl, List.take_length]))
  simp [execOp, hx, this]
theorem hq_ldr (vs : List Value) {Q : Act → Prop} (h : Region.wanted { dst := d, op := .load ty x, type := tt, pos := ps, after := af, guard := gd } (yielded ops a.tmps) = true ∧ rowT P ty = true ∧ sizeT P ty = some vs.length ∧ ∃ g off, a.eval x = .pointer (some ⟨g, off, none⟩) ∧
    ∃ i t cs, Has L i (.blk g t cs) ∧ (cs.drop off).take vs.length = vs ∧ wpQuiet P ops (fun w' => ∃ x : HpS w0 L, w' = x.val) Q rest (a.put d (.agg vs.toArray))) :
    wpQuiet P ops (fun w' => ∃ x : HpS w0 L, w' = x.val) Q ({ dst := d, op := .load ty x, type := tt, pos := ps, after := af, guard := gd } :: rest) a := by
  obtain ⟨h1, h2, h3, g, off, hx, i, t, cs, hL, hv, h⟩ := h
  refine BigFrame.wpQuiet_want h1 fun K hK => quiet_of_run _ ?_ (hK _ h)
  rintro w ⟨⟨w, H⟩, rfl⟩
  have := run_loadAt_row (P := P) h2 h3 (H.range i hL.get off _ hv)
  simp [execOp, hx, this]
theorem hq_bld {Q : Act → Prop} {t : TypeId} {parts : Array (Nat × Operand)} (h : Region.wanted { dst := d, op := .build t parts, type := tt, pos := ps, after := af, guard := gd } (yielded ops a.tmps) = true ∧
    ∃ cs : List Value, P.built t (parts.map fun (i, x) => (i, a.eval x)).toList = some cs.toArray ∧ wpQuiet P ops (fun w' => ∃ x : HpS w0 L, w' = x.val) Q rest (a.put d (.agg cs.toArray))) :
    wpQuiet P ops (fun w' => ∃ x : HpS w0 L, w' = x.val) Q ({ dst := d, op := .build t parts, type := tt, pos := ps, after := af, guard := gd } :: rest) a := by
  obtain ⟨h1, cs, h2, h⟩ := h
  refine BigFrame.wpQuiet_want h1 fun K hK => quiet_of_run _ ?_ (hK _ h)
  rintro w ⟨⟨w, H⟩, rfl⟩
  have := run_build (P := P) w t _ _ h2
  simp [execOp, this]
/-- a call in it that leaves what was there -/
theorem hq_call {f : FuncId} {args : Array Value} {x : HpS w0 L} {v : Value} (h : Calls P f args x.val (RetV x.val v)) : Calls P f args x.val fun e w'' => e = .returned v ∧ ∃ y : HpS w0 L, w'' = y.val :=
  h.mono fun _ _ ⟨he, hb⟩ => ⟨he, ⟨_, x.2.call hb⟩, rfl⟩
theorem hq_callb {f : FuncId} {args : Array Value} {x : HpS w0 L} {b b' : Bool} (h : Calls P f args x.val (RetV x.val (.bool b))) (e : b = b') : Calls P f args x.val fun e w'' => e = .returned (.bool b') ∧ ∃ y : HpS w0 L, w'' = y.val := by subst e; exact hq_call h
theorem hq_same {f : FuncId} {args : Array Value} {x : HpS w0 L} {v : Value} (h : Calls P f args x.val (fun e w' => e = .returned v ∧ x.val = w')) : Calls P f args x.val fun e w'' => e = .returned v ∧ ∃ y : HpS w0 L, w'' = y.val :=
  h.mono fun _ _ ⟨he, hb⟩ => ⟨he, x, hb.symm⟩
end

/-! Results that lie in blocks. -/
section
variable {P : Program} {fn : Func} {tmps : Array Value} {w0 w : World} {L : List Item}
theorem Hp.var (H : Hp w0 w L) {ty : TypeId} (hc : rowT P ty = true) {g : Nat} {i : Nat} {t : TypeId} {cs : List Value} (hL : Has L i (.blk g t cs)) (hn : sizeT P ty = some cs.length) : (loadVar ty ⟨g, 0, none⟩).run P w = .ok (.agg cs.toArray) w := by
  have h := run_loadAt_row (P := P) hc hn (H.range i hL.get 0 _ (vs := cs) (by rw [List.drop_zero, List.take_length]))
  simpa only [Instr.loadAt, Instr.sureAddr, Sem.run_bind, Sem.run_pure, Result.andThen_ok] using h
theorem results_c {p : Tmp} {ty : TypeId} (h : fn.results = #[.cell p ty]) {g : Nat} (hp : tmps.getD p undef = .pointer (some ⟨g, 0, none⟩)) {v : Value} (hv : (loadVar ty ⟨g, 0, none⟩).run P w = .ok v w) : (results fn tmps).run P w = .ok v w := by
  have hp' : tmps[p]?.getD undef = .pointer (some ⟨g, 0, none⟩) := by simpa using hp
  simp [results, h, hp', asAddr, hv]
theorem results_ct {p t : Tmp} {ty : TypeId} (h : fn.results = #[.cell p ty, .tmp t]) {g : Nat} (hp : tmps.getD p undef = .pointer (some ⟨g, 0, none⟩)) {v u : Value} (hv : (loadVar ty ⟨g, 0, none⟩).run P w = .ok v w) (hu : tmps.getD t undef = u) : (results fn tmps).run P w = .ok (.tuple #[v, u]) w := by
  have hp' : tmps[p]?.getD undef = .pointer (some ⟨g, 0, none⟩) := by simpa using hp
  have hu' : tmps[t]?.getD undef = u := by simpa using hu
  simp [results, h, hp', asAddr, hv, hu']
theorem results_ctt {p t s : Tmp} {ty : TypeId} (h : fn.results = #[.cell p ty, .tmp t, .tmp s]) {g : Nat} (hp : tmps.getD p undef = .pointer (some ⟨g, 0, none⟩)) {v u u2 : Value} (hv : (loadVar ty ⟨g, 0, none⟩).run P w = .ok v w) (hu : tmps.getD t undef = u) (hu2 : tmps.getD s undef = u2) : (results fn tmps).run P w = .ok (.tuple #[v, u, u2]) w := by
  have hp' : tmps[p]?.getD undef = .pointer (some ⟨g, 0, none⟩) := by simpa using hp
  have hu' : tmps[t]?.getD undef = u := by simpa using hu
  have hu2' : tmps[s]?.getD undef = u2 := by simpa using hu2
  simp [results, h, hp', asAddr, hv, hu', hu2']
theorem results_tct {p t s : Tmp} {ty : TypeId} (h : fn.results = #[.tmp t, .cell p ty, .tmp s]) {g : Nat} (hp : tmps.getD p undef = .pointer (some ⟨g, 0, none⟩)) {v u u2 : Value} (hv : (loadVar ty ⟨g, 0, none⟩).run P w = .ok v w) (hu : tmps.getD t undef = u) (hu2 : tmps.getD s undef = u2) : (results fn tmps).run P w = .ok (.tuple #[u, v, u2]) w := by
  have hp' : tmps[p]?.getD undef = .pointer (some ⟨g, 0, none⟩) := by simpa using hp
  have hu' : tmps[t]?.getD undef = u := by simpa using hu
  have hu2' : tmps[s]?.getD undef = u2 := by simpa using hu2
  simp [results, h, hp', asAddr, hv, hu', hu2']
theorem results_cct {p q t : Tmp} {ty ty2 : TypeId} (h : fn.results = #[.cell p ty, .cell q ty2, .tmp t]) {g g2 : Nat} (hp : tmps.getD p undef = .pointer (some ⟨g, 0, none⟩)) (hq : tmps.getD q undef = .pointer (some ⟨g2, 0, none⟩)) {v v2 u : Value} (hv : (loadVar ty ⟨g, 0, none⟩).run P w = .ok v w) (hv2 : (loadVar ty2 ⟨g2, 0, none⟩).run P w = .ok v2 w) (hu : tmps.getD t undef = u) : (results fn tmps).run P w = .ok (.tuple #[v, v2, u]) w := by
  have hp' : tmps[p]?.getD undef = .pointer (some ⟨g, 0, none⟩) := by simpa using hp
  have hq' : tmps[q]?.getD undef = .pointer (some ⟨g2, 0, none⟩) := by simpa using hq
  have hu' : tmps[t]?.getD undef = u := by simpa using hu
  simp [results, h, hp', hq', asAddr, hv, hv2, hu']
theorem results_cc {p q : Tmp} {ty ty2 : TypeId} (h : fn.results = #[.cell p ty, .cell q ty2]) {g g2 : Nat} (hp : tmps.getD p undef = .pointer (some ⟨g, 0, none⟩)) (hq : tmps.getD q undef = .pointer (some ⟨g2, 0, none⟩)) {v v2 : Value} (hv : (loadVar ty ⟨g, 0, none⟩).run P w = .ok v w) (hv2 : (loadVar ty2 ⟨g2, 0, none⟩).run P w = .ok v2 w) : (results fn tmps).run P w = .ok (.tuple #[v, v2]) w := by
  have hp' : tmps[p]?.getD undef = .pointer (some ⟨g, 0, none⟩) := by simpa using hp
  have hq' : tmps[q]?.getD undef = .pointer (some ⟨g2, 0, none⟩) := by simpa using hq
  simp [results, h, hp', hq', asAddr, hv, hv2]
end
theorem three (a b : Bool) : a = false ∨ (a = true ∧ b = false) ∨ (a = true ∧ b = true) := by cases a <;> cases b <;> simp
theorem threeO (a b : Bool) : a = true ∨ (a = false ∧ b = false) ∨ (a = false ∧ b = true) := by cases a <;> cases b <;> simp
end Go.Proofs.Ytanpglhpmfdnmaa
