import Derived.Test.YtiieakndjheknaaDoorPk1
import Derived.Laws.Rows
import Derived.Laws.Tables
import Derived.Deep.MidRow
import Derived.Maps.RangeWalk
import Derived.Laws.StructEq
import Derived.StillTailTactics
import Derived.Deep.RegionHeld3
/-
  PLAIN: entries: whether they may be, their bytes; what is read at a place; a body. No program in sight.
-/
namespace Go.Proofs.YtiieakndjheknaaDoor
set_option maxRecDepth 100000
set_option linter.unusedVariables false

structure En where
  k : Int
  c : Int
  s : Int
  ok : Int
  s0 : ByteArray
  s1 : ByteArray
  s2 : ByteArray
def opC (ok : Int) (s0 s1 s2 : ByteArray) : List Value := [.int .u8 ok, .string s0, .string s1, .string s2]
def enC (e : En) : List Value := [.int .u8 e.k, .int .i64 e.c, .int .i64 e.s, .int .u8 e.ok, .string e.s0, .string e.s1, .string e.s2]
def en0 : En := ⟨0, 0, 0, 0, .empty, .empty, .empty⟩
def noop : En := ⟨1, 0, 0, 0, .empty, .empty, .empty⟩
def mtB (s : ByteArray) : Bool := s.toList.isEmpty
def mayOpB (k : Int) (s0 s1 s2 : ByteArray) : Bool :=
  (decide ((1 : Int) ≤ s0.size) && decide ((s0.size : Int) ≤ 8)) && ((((k == 1) || (k == 3)) && (mtB s2 && mtB s1)) || ((k == 2) && (mtB s1 && decide ((s2.size : Int) ≤ 16))) || ((k == 4) && (decide ((s1.size : Int) ≤ 16) && decide ((s2.size : Int) ≤ 16))))
def isNoop (e : En) : Bool := (e.k == 1) && ((e.c == 0) && ((e.s == 0) && ((e.ok == 0) && (mtB e.s0 && (mtB e.s1 && mtB e.s2)))))
def mayB (e : En) : Bool :=
  isNoop e || ((e.k == 2) && (decide (0 ≤ e.c) && (decide (e.c < 4) && (decide (1 ≤ e.s) && (decide (e.s ≤ 1099511627776) && (mayOpB e.ok e.s0 e.s1 e.s2 && !(e.ok == 1)))))))

theorem mt_eq {s : ByteArray} (h : mtB s = true) : s = .empty := by
  have : s.data.toList = [] := by rw [mtB, ByteArray.toList_eq] at h; exact List.isEmpty_iff.1 h
  have : s.data.size = 0 := by rw [← Array.length_toList, this]; rfl
  exact ByteArray.ext (Array.eq_empty_of_size_eq_zero this)
theorem mt_size {s : ByteArray} (h : mtB s = true) : s.size = 0 := by rw [mt_eq h]; rfl
theorem emp_size (s : ByteArray) (h : s.toList = []) : (s.size : Int) = 0 := by rw [show s = .empty from mt_eq (by rw [mtB, h]; rfl)]; rfl
theorem mayOp_bd {k : Int} {s0 s1 s2 : ByteArray} (h : mayOpB k s0 s1 s2 = true) : 1 ≤ s0.size ∧ s0.size ≤ 8 ∧ s1.size ≤ 16 ∧ s2.size ≤ 16 ∧ 1 ≤ k ∧ k ≤ 4 := by
  simp only [mayOpB, Bool.and_eq_true, Bool.or_eq_true, beq_iff_eq, decide_eq_true_eq] at h
  obtain ⟨⟨h1, h2⟩, (⟨h3, h4, h5⟩ | ⟨h3, h4, h5⟩) | ⟨h3, h4, h5⟩⟩ := h
  · have z1 := mt_size h4
    have z2 := mt_size h5
    omega
  · have z1 := mt_size h4
    omega
  · omega
/-! What is read: the program's reader is a place and whether something was amiss. -/
structure Rs where
  at_ : Int
  bad : Bool
def gB (l : List UInt8) (r : Rs) (w : Int) : Bool := r.bad || (getE l r.at_ w != 0)
def gR (l : List UInt8) (r : Rs) (w : Int) : Rs := if gB l r w then ⟨r.at_, true⟩ else ⟨getP l r.at_ w, false⟩
def tB (l : List UInt8) (r : Rs) : Bool := r.bad || (readE l r.at_ != 0)
def tR (l : List UInt8) (r : Rs) : Rs := if tB l r then ⟨r.at_, true⟩ else ⟨readP l r.at_, false⟩
def r1 (l : List UInt8) (a : Int) : Rs := gR l ⟨a, false⟩ 1
def r2 (l : List UInt8) (a : Int) : Rs := gR l (r1 l a) 1
def r3 (l : List UInt8) (a : Int) : Rs := gR l (r2 l a) 6
def r4 (l : List UInt8) (a : Int) : Rs := gR l (r3 l a) 1
def r5 (l : List UInt8) (a : Int) : Rs := tR l (r4 l a)
def r6 (l : List UInt8) (a : Int) : Rs := tR l (r5 l a)
/-- what parsing a body comes to -/
def q1 (l : List UInt8) : Rs := gR l ⟨0, false⟩ 6
def q2 (l : List UInt8) : Rs := gR l (q1 l) 1
/-! What was put is read. -/
/-! What is read is what was put. -/
end Go.Proofs.YtiieakndjheknaaDoor

/-
  A SMALL HEAP IN ONE HYPOTHESIS: what a call has made since it began, block by block; the world itself stays a variable. Laws for the walk's operations on it: in a plain region, and in one that draws its order.
-/
namespace Go.Proofs.YtiieakndjheknaaDoor
set_option maxRecDepth 100000
open Go.RowKit
set_option linter.unusedVariables false

inductive Item where
  | blk (g : Nat) (t : TypeId) (cs : List Value)
  | own (e : TypeId) (size : Nat) (A : Option Addr) (n c : Nat) (xs : List Value)
  | obj (g : Nat) (o : Obj)
/-- new bytes -/
abbrev Item.bytes (A : Option Addr) (c : Nat) (l : List UInt8) : Item := .own 5 1 A l.length c (bvs l)
def Item.holds (base : Nat) (w : World) : Item → Prop
  | .blk g t cs => Blk w g t cs.toArray
  | .own e size A n c xs => w.ownsRow base e size (.slice A n c) n xs
  | .obj g o => w.heap[g]? = some o
def Item.foot : Item → Option Nat
  | .blk g _ _ => some g
  | .own _ _ A _ _ _ => A.map (·.block)
  | .obj g _ => some g
theorem Item.keep {base : Nat} {w w' : World} {x : Item} (h : x.holds base w) (hk : ∀ k, x.foot = some k → w'.heap[k]? = w.heap[k]?) : x.holds base w' := by
  cases x with
  | blk g t cs => exact (hk g rfl).trans h
  | obj g o => exact (hk g rfl).trans h
  | own e size A n c xs =>
    refine ⟨h.1, ?_⟩
    rcases h.2 with hn | ⟨g, cap, cur, hv, hbb, hg, r⟩
    · exact .inl hn
    · refine .inr ⟨g, cap, cur, hv, hbb, (hk g ?_).trans hg, r⟩
      injection hv with hv
      simp [Item.foot, hv]
/-- no block of both -/
def Item.apart (x y : Item) : Prop := ∀ k, x.foot = some k → y.foot ≠ some k
theorem Item.apart.symm {x y : Item} (h : x.apart y) : y.apart x := fun k hy hx => h k hx hy

structure Hp (w0 w : World) (L : List Item) : Prop where
  below : Below w0.heap.size w0 w
  holds : ∀ x ∈ L, x.holds w0.heap.size w
  fresh : ∀ x ∈ L, ∀ k, x.foot = some k → w0.heap.size ≤ k ∧ k < w.heap.size
  apart : L.Pairwise Item.apart

theorem Hp.nil (w : World) : Hp w w [] := ⟨Below.refl _ _, by simp, by simp, List.Pairwise.nil⟩
theorem Hp.perm {w0 w : World} {L L' : List Item} (H : Hp w0 w L) (p : L.Perm L') : Hp w0 w L' :=
  ⟨H.below, fun x hx => H.holds x (p.mem_iff.2 hx), fun x hx => H.fresh x (p.mem_iff.2 hx), (p.pairwise_iff (fun h => h.symm)).1 H.apart⟩
theorem Hp.tail {w0 w : World} {x : Item} {L : List Item} (H : Hp w0 w (x :: L)) : Hp w0 w L :=
  ⟨H.below, fun y hy => H.holds y (List.mem_cons_of_mem _ hy), fun y hy => H.fresh y (List.mem_cons_of_mem _ hy), (List.pairwise_cons.1 H.apart).2⟩
theorem Hp.sub {w0 w : World} {L L' : List Item} (H : Hp w0 w L) (p : L'.Sublist L) : Hp w0 w L' :=
  ⟨H.below, fun x hx => H.holds x (p.subset hx), fun x hx => H.fresh x (p.subset hx), H.apart.sublist p⟩
theorem Hp.drop {w0 w : World} {L : List Item} (H : Hp w0 w L) (n : Nat) : Hp w0 w (L.drop n) := H.sub (List.drop_sublist n L)
theorem Hp.size {w0 w : World} {L : List Item} (H : Hp w0 w L) : w0.heap.size ≤ w.heap.size := H.below.size
/-- the first item turned, all else as it was -/
theorem Hp.upd {w0 w w' : World} {x x' : Item} {L : List Item} (H : Hp w0 w (x :: L)) (hb : Below w0.heap.size w0 w') (hs : w.heap.size ≤ w'.heap.size)
    (hk : ∀ k, k < w.heap.size → x.foot ≠ some k → w'.heap[k]? = w.heap[k]?) (hx : x'.holds w0.heap.size w')
    (hf : ∀ k, x'.foot = some k → (x.foot = some k ∨ w.heap.size ≤ k) ∧ w0.heap.size ≤ k ∧ k < w'.heap.size) : Hp w0 w' (x' :: L) := by
  have hap := List.pairwise_cons.1 H.apart
  refine ⟨hb, ?_, ?_, ?_⟩
  · intro y hy
    rcases List.mem_cons.1 hy with rfl | hy
    · exact hx
    · refine Item.keep (H.holds y (List.mem_cons_of_mem _ hy)) fun k hyk => hk k ?_ ?_
      · exact (H.fresh y (List.mem_cons_of_mem _ hy) k hyk).2
      · exact fun e => hap.1 y hy k e hyk
  · intro y hy k hyk
    rcases List.mem_cons.1 hy with rfl | hy
    · exact (hf k hyk).2
    · have := H.fresh y (List.mem_cons_of_mem _ hy) k hyk
      exact ⟨this.1, by omega⟩
  · refine List.pairwise_cons.2 ⟨fun y hy k hxk hyk => ?_, hap.2⟩
    rcases (hf k hxk).1 with h | h
    · exact hap.1 y hy k h hyk
    · have := (H.fresh y (List.mem_cons_of_mem _ hy) k hyk).2
      omega
/-- a new item -/
theorem Hp.new {w0 w w' : World} {x' : Item} {L : List Item} (H : Hp w0 w L) (hb : Below w0.heap.size w0 w') (hs : w.heap.size ≤ w'.heap.size)
    (hk : ∀ k, k < w.heap.size → w'.heap[k]? = w.heap[k]?) (hx : x'.holds w0.heap.size w') (hf : ∀ k, x'.foot = some k → w.heap.size ≤ k ∧ k < w'.heap.size) : Hp w0 w' (x' :: L) := by
  refine ⟨hb, ?_, ?_, ?_⟩
  · intro y hy
    rcases List.mem_cons.1 hy with rfl | hy
    · exact hx
    · exact Item.keep (H.holds y hy) fun k hyk => hk k (H.fresh y hy k hyk).2
  · intro y hy k hyk
    rcases List.mem_cons.1 hy with rfl | hy
    · have := hf k hyk; have := H.size; omega
    · have := H.fresh y hy k hyk
      exact ⟨this.1, by omega⟩
  · refine List.pairwise_cons.2 ⟨fun y hy k hxk hyk => ?_, H.apart⟩
    have := hf k hxk
    have := (H.fresh y hy k hyk).2
    omega
theorem Hp.alloc {w0 w : World} {L : List Item} (H : Hp w0 w L) (t : TypeId) (cs : List Value) : Hp w0 (w.alloc (.cells cs.toArray t)) (.blk w.heap.size t cs :: L) :=
  H.new (H.below.alloc H.size _) (by simp) (fun k hk => Below.heap_alloc w _ k hk) (Blk.new _ _ _) (fun k hk => by simp [Item.foot] at hk; subst hk; simp)
/-- behind a call that leaves what was there -/
theorem Hp.call {w0 w w' : World} {L : List Item} (H : Hp w0 w L) (hb : Below w.heap.size w w') : Hp w0 w' L :=
  ⟨H.below.trans (hb.mono H.size), fun x hx => Item.keep (H.holds x hx) fun k hk => hb.block k (H.fresh x hx k hk).2, fun x hx k hk => ⟨(H.fresh x hx k hk).1, Nat.lt_of_lt_of_le (H.fresh x hx k hk).2 hb.size⟩, H.apart⟩
theorem Hp.callOwn {w0 w w' : World} {L : List Item} (H : Hp w0 w L) (hb : Below w.heap.size w w') {A : Option Addr} {c : Nat} {l : List UInt8} (ho : Own w' w.heap.size A c l) : Hp w0 w' (.bytes A c l :: L) := by
  refine H.new (H.below.trans (hb.mono H.size)) hb.size (fun k hk => hb.block k hk) (ho.mono H.size) (fun k hk => ?_)
  rcases ho.form with ⟨rfl, _⟩ | ⟨g, rfl, h1, h2, _⟩
  · cases hk
  · simp [Item.foot] at hk; subst hk; exact ⟨h1, h2⟩
theorem Hp.drew {w0 w : World} {L : List Item} (H : Hp w0 w L) : Hp w0 w.drew L := ⟨H.below.drew, H.holds, H.fresh, H.apart⟩

theorem perm_front {α : Type} : ∀ (L : List α) (i : Nat) (x : α), L[i]? = some x → L.Perm (x :: L.eraseIdx i)
  | [], i, x, h => by simp at h
  | y :: L, 0, x, h => by simp at h; subst h; exact List.Perm.refl _
  | y :: L, i + 1, x, h => by
    have := perm_front L i x (by simpa using h)
    exact (this.cons y).trans (List.Perm.swap x y _)
theorem perm_set {α : Type} : ∀ (L : List α) (i : Nat) (x : α), i < L.length → (x :: L.eraseIdx i).Perm (L.set i x)
  | [], i, x, h => by simp at h
  | y :: L, 0, x, h => List.Perm.refl _
  | y :: L, i + 1, x, h => by
    have := perm_set L i x (by simpa using h)
    exact (List.Perm.swap y x _).trans (this.cons y)
theorem Hp.front {w0 w : World} {L : List Item} (H : Hp w0 w L) (i : Nat) {x : Item} (hL : L[i]? = some x) : Hp w0 w (x :: L.eraseIdx i) := by
  exact H.perm (perm_front L i x hL)
theorem Hp.back {w0 w : World} {L : List Item} (i : Nat) {x : Item} (hi : i < L.length) (H : Hp w0 w (x :: L.eraseIdx i)) : Hp w0 w (L.set i x) := H.perm (perm_set L i x hi)
theorem Hp.b {w0 w : World} {L : List Item} (H : Hp w0 w L) (i : Nat) {g : Nat} {t : TypeId} {cs : List Value} (hL : L[i]? = some (.blk g t cs)) : Blk w g t cs.toArray := H.holds _ (List.mem_of_getElem? hL)
theorem Hp.o {w0 w : World} {L : List Item} (H : Hp w0 w L) (i : Nat) {A : Option Addr} {c : Nat} {l : List UInt8} (hL : L[i]? = some (.bytes A c l)) : Own w w0.heap.size A c l := H.holds _ (List.mem_of_getElem? hL)
theorem Hp.c {w0 w : World} {L : List Item} (H : Hp w0 w L) (i : Nat) {g : Nat} {t : TypeId} {cs : List Value} (hL : L[i]? = some (.blk g t cs)) (off : Nat) {v : Value} (hv : cs[off]? = some v) : w.cell? ⟨g, off, none⟩ = some v := by
  refine (H.b i hL).c off v ?_
  simpa using hv
theorem Hp.old {w0 w : World} {L : List Item} (H : Hp w0 w L) {p : Addr} {v : Value} (h : w0.cell? p = some v) : w.cell? p = some v := (H.below.cell (World.block_lt_of_cell? _ _ h)).trans h
theorem Hp.setBlk {w0 w : World} {L : List Item} (H : Hp w0 w L) (i : Nat) {g : Nat} {t : TypeId} {cs : List Value} (hL : L[i]? = some (.blk g t cs)) (off : Nat) (v : Value) :
    Hp w0 (w.setCell ⟨g, off, none⟩ v) (L.set i (.blk g t (cs.set off v))) := by
  have hi : i < L.length := (List.getElem?_eq_some_iff.1 hL).1
  have H1 := H.front i hL
  have hfr := (H1.fresh _ List.mem_cons_self g rfl)
  refine Hp.back i hi (H1.upd (H.below.setCell hfr.1 _) (by simp) ?_ ?_ ?_)
  · intro k hk hne
    exact Below.heap_setCell _ _ _ _ (fun e => hne (by simp [Item.foot, e]))
  · have := (H1.holds _ List.mem_cons_self : Blk w g t cs.toArray).set off v
    simpa [Item.holds] using this
  · intro k hk
    simp [Item.foot] at hk
    subst hk
    exact ⟨.inl rfl, hfr.1, by simpa using hfr.2⟩
theorem setCells_heap_same (w : World) (g : Nat) (t : TypeId) : ∀ (vs : List Value) (off : Nat) (w : World) (cs : List Value), Blk w g t cs.toArray → off + vs.length ≤ cs.length →
    Blk (w.setCells g off vs) g t (cs.take off ++ vs ++ cs.drop (off + vs.length)).toArray ∧ (w.setCells g off vs).heap.size = w.heap.size ∧ (∀ k, k ≠ g → (w.setCells g off vs).heap[k]? = w.heap[k]?) ∧ ∀ B w0, B ≤ g → Below B w0 w → Below B w0 (w.setCells g off vs) := by
  intro vs
  induction vs with
  | nil =>
    intro off w cs hB _
    refine ⟨?_, rfl, fun _ _ => rfl, fun _ _ _ h => h⟩
    simpa [World.setCells] using hB
  | cons v vs ih =>
    intro off w cs hB hl
    simp only [List.length_cons] at hl
    have h1 : Blk (w.setCell ⟨g, off, none⟩ v) g t (cs.set off v).toArray := by
      have := hB.set off v
      simpa using this
    obtain ⟨i1, i2, i3, i4⟩ := ih (off + 1) _ _ h1 (by rw [List.length_set]; omega)
    have e : w.setCells g off (v :: vs) = (w.setCell ⟨g, off, none⟩ v).setCells g (off + 1) vs := rfl
    rw [e]
    refine ⟨?_, i2.trans (by simp), fun k hk => (i3 k hk).trans (Below.heap_setCell _ _ _ _ hk), fun B w0 hB hb => i4 B w0 hB (hb.setCell hB _)⟩
    have : (cs.set off v).take (off + 1) ++ vs ++ (cs.set off v).drop (off + 1 + vs.length) = cs.take off ++ v :: vs ++ cs.drop (off + (v :: vs).length) := by
      rw [List.drop_set, if_pos (by omega), List.take_set, List.length_cons]
      have h2 : (cs.take (off + 1)).set off v = cs.take off ++ [v] := by
        rw [List.take_succ_eq_append_getElem (by omega), List.set_append_right _ _ (by simp; omega)]
        simp [Nat.min_eq_left (show off ≤ cs.length by omega)]
      rw [h2, show off + 1 + vs.length = off + (vs.length + 1) by omega]
      simp
    rwa [this] at i1
theorem Hp.setRange {w0 w : World} {L : List Item} (H : Hp w0 w L) (i : Nat) {g : Nat} {t : TypeId} {cs : List Value} (hL : L[i]? = some (.blk g t cs)) (off : Nat) (vs : List Value) (hl : off + vs.length ≤ cs.length) :
    Hp w0 (w.setCells g off vs) (L.set i (.blk g t (cs.take off ++ vs ++ cs.drop (off + vs.length)))) := by
  have hi : i < L.length := (List.getElem?_eq_some_iff.1 hL).1
  have H1 := H.front i hL
  have hfr := (H1.fresh _ List.mem_cons_self g rfl)
  obtain ⟨h1, h2, h3, h4⟩ := setCells_heap_same w g t vs off w cs (H1.holds _ List.mem_cons_self) hl
  refine Hp.back i hi (H1.upd (h4 _ _ hfr.1 H.below) (by omega) ?_ h1 ?_)
  · intro k hk hne
    exact h3 k (fun e => hne (by simp [Item.foot, e]))
  · intro k hk
    simp [Item.foot] at hk
    subst hk
    exact ⟨.inl rfl, hfr.1, by omega⟩
theorem Hp.range {w0 w : World} {L : List Item} (H : Hp w0 w L) (i : Nat) {g : Nat} {t : TypeId} {cs : List Value} (hL : L[i]? = some (.blk g t cs)) (off n : Nat) {vs : List Value} (hv : (cs.drop off).take n = vs) : w.rangeAt g off vs := by
  intro j v hj
  subst hv
  have hj2 : j < n := by have := (List.getElem?_eq_some_iff.1 hj).1; simp at this; omega
  refine H.c i hL (off + j) ?_
  rw [List.getElem?_take_of_lt hj2, List.getElem?_drop] at hj
  exact hj
theorem Hp.there {w0 w : World} {L : List Item} (H : Hp w0 w L) (i : Nat) {g : Nat} {t : TypeId} {cs : List Value} (hL : L[i]? = some (.blk g t cs)) (off n : Nat) (hv : off + n ≤ cs.length) : w.there g off n := by
  intro j hj
  refine ⟨?_, (H.b i hL).frozen _⟩
  rw [(H.b i hL).cell]
  simp
  omega
theorem ownsRow_foot {w : World} {base : Nat} {e : TypeId} {size : Nat} {A : Option Addr} {n c : Nat} {xs : List Value} (h : w.ownsRow base e size (.slice A n c) n xs) (k : Nat) (hk : A.map (·.block) = some k) : base ≤ k ∧ k < w.heap.size := by
  rcases h.2 with ⟨hv, _⟩ | ⟨g, cap, cur, hv, hbb, hg, _⟩
  · injection hv with h1
    subst h1
    cases hk
  · injection hv with h1
    subst h1
    simp at hk
    subst hk
    exact ⟨hbb, (Array.getElem?_eq_some_iff.1 hg).1⟩
/-- the world behind an append to a slice of the call's own -/
theorem Hp.appd {w0 w w' : World} {L : List Item} (H : Hp w0 w L) (i : Nat) {e : TypeId} {size : Nat} {A : Option Addr} {n c : Nat} {xs : List Value} (hL : L[i]? = some (.own e size A n c xs)) {A' : Option Addr} {n' c' : Nat} {xs' : List Value}
    (ho : w'.ownsRow w0.heap.size e size (.slice A' n' c') n' xs') (hb : Below w0.heap.size w w') (hg : w.grownBy w' (Value.slice A n c).ownBlock)
    (hn : (Value.slice A' n' c').ownBlock = (Value.slice A n c).ownBlock ∨ (Value.slice A' n' c').ownBlock = some w.heap.size) : Hp w0 w' (L.set i (.own e size A' n' c' xs')) := by
  have hi : i < L.length := (List.getElem?_eq_some_iff.1 hL).1
  have H1 := H.front i hL
  have hf : ∀ B n c, (Value.slice B n c).ownBlock = (Item.own e size B n c xs).foot := fun B n c => by cases B <;> rfl
  have hf' : ∀ B n c, (Value.slice B n c).ownBlock = (Item.own e size B n c xs').foot := fun B n c => by cases B <;> rfl
  refine Hp.back i hi (H1.upd (H.below.trans hb) hg.size ?_ ho ?_)
  · intro k hk hne
    exact hg.block k hk (fun e => hne (by rw [← hf, e]))
  · intro k hk
    have h1 := ownsRow_foot ho k (by simpa [Item.foot] using hk)
    refine ⟨?_, h1⟩
    rw [hf', hf', hk] at hn
    rcases hn with h | h
    · left; rw [h]; cases A <;> rfl
    · right; injection h with h; omega
theorem Hp.appendRun {w0 w : World} {L : List Item} (H : Hp w0 w L) (i : Nat) {e : TypeId} {size : Nat} {A : Option Addr} {n c : Nat} {xs : List Value} (hL : L[i]? = some (.own e size A n c xs))
    (t ty : TypeId) (ti : TypeInfo) (z : Value) (bytes : Nat) (ht : Tryd.prog.underlying t = some (.slice e)) (hi : Tryd.prog.info? e = some ti) (hz : ti.zero = some z) (hsize : ti.size = size) (hby : ti.bytes = bytes) (hzs : z.cells.size = size) (hsz : 0 < size)
    (a : Addr) (m c2 : Nat) (news : List Value) (hl : news.length = m * size) (hnews : ∀ j u, news[j]? = some u → w.cell? (a.add j) = some u) (h1 : ∀ u ∈ news, u.oneCell' = true) (h63 : n + m ≤ maxLen) (hbytes : (n + m) * bytes ≤ 140737488355328) (hm : 0 < n + m) :
    ∃ A' c' w', (Builtin.append_ #[t, t] ty #[.slice A n c, .slice (some a) m c2]).run Tryd.prog w = .ok (.slice A' (n + m) c') w' ∧ Hp w0 w' (L.set i (.own e size A' (n + m) c' (xs ++ news))) := by
  have hown : w.ownsRow w0.heap.size e size (.slice A n c) n xs := H.holds _ (List.mem_of_getElem? hL)
  obtain ⟨v', w', hrun, h2, h3, _, h5⟩ := run_append_own_at (P := Tryd.prog) w w0.heap.size t ty e ti z size bytes ht hi hz hsize hby hzs hsz _ n xs hown a m c2 news hl hnews h1 h63 hbytes H.size
  have hv : ∃ A' c', v' = .slice A' (n + m) c' := by
    rcases h2.2 with ⟨hv, hn⟩ | ⟨g, cap, cur, hv, _⟩
    · omega
    · exact ⟨_, _, hv⟩
  obtain ⟨A', c', rfl⟩ := hv
  exact ⟨A', c', w', hrun, H.appd i hL h2 ((Below.refl _ _).grown h3 H.size (fun k hk => (World.ownsRow.lt hown k hk).1)) h3 h5⟩
/-- bytes behind new bytes -/
theorem Hp.wlAppendBytes {ops : Array Oper} {rest : List Oper} {o : Oper} {a : Act} {Q : Exit → Act → World → Prop} {w0 w : World} {L : List Item} (H : Hp w0 w L) (hgd : o.guard = none) (s x : Operand)
    (ho : o.op = .call { callee := .builtin .append, args := #[s, x], argTypes := #[32, 32] })
    (i : Nat) (A : Option Addr) (n c : Nat) (l : List UInt8) (hs : a.eval s = .slice A n c) (hL : L[i]? = some (.bytes A c l)) (hn : n = l.length)
    (A2 : Option Addr) (m c2 : Nat) (news : List UInt8) (hx : a.eval x = .slice A2 m c2) (hm : m = news.length) (hr : Rd w A2 news) (hlen : l.length + news.length ≤ 140737488355328)
    (h : ∀ A' c' w', Hp w0 w' (L.set i (.bytes A' c' (l ++ news))) → wpList Tryd.prog ops Q rest (a.put o.dst (.slice A' (l ++ news).length c')) w') : wpList Tryd.prog ops Q (o :: rest) a w := by
  obtain ⟨ti, hi, hz0, hz1, hz2⟩ := info_parts u8_info
  subst hn hm
  refine wpList_plain hgd fun _ hK => ?_
  have hown : Own w w0.heap.size A c l := H.o i hL
  have key : ∃ A' c' w', (Builtin.append_ #[32, 32] o.type #[.slice A l.length c, .slice A2 news.length c2]).run Tryd.prog w = .ok (.slice A' (l ++ news).length c') w' ∧ Hp w0 w' (L.set i (.bytes A' c' (l ++ news))) := by
    by_cases h0 : news = []
    · subst h0
      have hiL : i < L.length := (List.getElem?_eq_some_iff.1 hL).1
      have hLe : L.set i (.bytes A c l) = L := by
        have := (List.getElem?_eq_some_iff.1 hL).2
        rw [← this, List.set_getElem_self]
      refine ⟨A, c, w, ?_, by rw [List.append_nil, hLe]; exact H⟩
      rw [List.append_nil]
      cases A2 with
      | none => exact run_append_of_nil (P := Tryd.prog) w w0.heap.size 32 o.type _ ti 1 u8_slice hi _ _ _ hown c2
      | some ad =>
        have h00 : (loadCells ad 0).run Tryd.prog w = .ok #[] w := rfl
        rcases hown.2 with ⟨hv, hn⟩ | ⟨g, cap, cur, hv, _, _, hnc, _⟩
        · rw [hv]; simp [Builtin.append_, run_underlying u8_slice, sizeOf, typeInfo, hi, Builtin.lenOf, Builtin.firstCells, h00]
        · rw [hv]; simp [Builtin.append_, run_underlying u8_slice, sizeOf, typeInfo, hi, Builtin.lenOf, Builtin.firstCells, hnc, storeCells, h00]
    · obtain ⟨b, oo, rfl, hc⟩ := hr h0
      have hpos := List.length_pos_iff.2 h0
      obtain ⟨A', c', w', hrun, hH⟩ := H.appendRun i hL 32 o.type ti _ 1 u8_slice hi hz0 hz1 hz2 rfl (by omega) ⟨b, oo, none⟩ news.length c2 (bvs news) (by simp [bvs])
        (by
          intro j u hu
          have hj : j < news.length := by have := (List.getElem?_eq_some_iff.1 hu).1; rwa [bvs_length] at this
          rw [Addr.add_lit, hc j hj, ← hu, bvs_get _ _ hj])
        (bvs_one _) (by have := le_maxLen; omega) (by omega) (by omega)
      refine ⟨A', c', w', by rw [List.length_append]; exact hrun, ?_⟩
      unfold Item.bytes
      rw [bvs_append, List.length_append]
      exact hH
  obtain ⟨A', c', w', hrun, hH⟩ := key
  unfold Oper.wp execOp
  simp only [ho, resolve, invoke, builtin, Sem.run_bind, Sem.run_pure, Result.andThen_ok, List.map_toArray, List.map_cons, List.map_nil, hs, hx, hrun]
  exact hK _ _ (h A' c' w' hH)

/-! The walk's operations. -/
def zeroC (P : Program) (ty : TypeId) : Option (Array Value) := (P.info? ty).bind fun i => i.zero.map Value.cells
def sizeT (P : Program) (ty : TypeId) : Option Nat := (P.info? ty).map (·.size)
def rowT (P : Program) (ty : TypeId) : Bool := match P.underlying ty with | some (.struct _) | some (.array _ _) => true | _ => false
def cellT (P : Program) (ty : TypeId) : Bool := match P.underlying ty with | some (.struct _) | some (.array _ _) => false | some _ => true | none => false
def oneT (P : Program) (ty : TypeId) : Bool := cellT P ty && (sizeT P ty == some 1)
theorem oneT_c {P : Program} {ty : TypeId} (h : oneT P ty = true) : cellT P ty = true := by unfold oneT at h; simp only [Bool.and_eq_true] at h; exact h.1
theorem oneT_s {P : Program} {ty : TypeId} (h : oneT P ty = true) : sizeT P ty = some 1 := by unfold oneT at h; simp only [Bool.and_eq_true, beq_iff_eq] at h; exact h.2
section
variable {P : Program} {ops : Array Oper} {rest : List Oper} {o : Oper} {a : Act} {w0 w : World} {Q : Exit → Act → World → Prop} {L : List Item}

theorem run_loadVar_cell {ty : TypeId} (hc : cellT P ty = true) {p : Addr} {v : Value} (h : w.cell? p = some v) : (loadVar ty p).run P w = .ok v w := by
  unfold cellT at hc
  cases hd : P.underlying ty with
  | none => simp [hd] at hc
  | some d =>
    have hagg : (isAgg ty).run P w = .ok false w := by
      unfold isAgg
      rw [Sem.run_bind, run_underlying hd w]
      cases d <;> simp_all
    simp [loadVar, Sem.run_bind, hagg, h]
theorem run_loadAt_cell {ty : TypeId} (hc : cellT P ty = true) {p : Addr} {v : Value} (h : w.cell? p = some v) : (Instr.loadAt ty (.pointer (some p))).run P w = .ok v w := by
  simp only [Instr.loadAt, Instr.sureAddr, Sem.run_bind, Sem.run_pure, Result.andThen_ok, run_loadVar_cell hc h]
theorem run_loadAt_row {ty : TypeId} (hc : rowT P ty = true) {g off : Nat} {vs : List Value} (hn : sizeT P ty = some vs.length) (h : w.rangeAt g off vs) : (Instr.loadAt ty (.pointer (some ⟨g, off, none⟩))).run P w = .ok (.agg vs.toArray) w := by
  unfold rowT at hc
  split at hc
  · rename_i hd; exact run_loadAt_mid w g off ty vs _ h hd rfl hn
  · rename_i hd; exact run_loadAt_mid w g off ty vs _ h hd rfl hn
  · cases hc

/-- x is item i of the list -/
inductive Has : List Item → Nat → Item → Prop
  | z {x : Item} {L : List Item} : Has (x :: L) 0 x
  | s {x y : Item} {L : List Item} {i : Nat} (h : Has L i x) : Has (y :: L) (i + 1) x
theorem Has.get {L : List Item} {i : Nat} {x : Item} (h : Has L i x) : L[i]? = some x := by
  induction h with
  | z => rfl
  | s h ih => simpa using ih
theorem Hp.wlAlloc (H : Hp w0 w L) (ty : TypeId) (ho : o.op = .alloc ty) (hw : Region.wanted o (yielded ops a.tmps) = true) (zs : List Value) (hz : zeroC P ty = some zs.toArray)
    (h : ∀ g w', Hp w0 w' (.blk g ty zs :: L) → wpList P ops Q rest (a.put o.dst (.pointer (some ⟨g, 0, none⟩))) w') : wpList P ops Q (o :: rest) a w := by
  refine BigFrame.wpList_want hw fun K hK => ?_
  obtain ⟨i, hi, hz⟩ := Option.bind_eq_some_iff.1 hz
  obtain ⟨z, hz1, hz2⟩ := Option.map_eq_some_iff.1 hz
  have := h _ _ (H.alloc ty zs)
  unfold Oper.wp
  simp [execOp, ho, Instr.alloc, zeroValue, typeInfo, hi, hz1, newVar, newRow, hz2]
  exact hK _ _ this
theorem Hp.wlBox (H : Hp w0 w L) (ty : TypeId) (x : Operand) (ho : o.op = .box ty x) (hw : Region.wanted o (yielded ops a.tmps) = true) (v : Value) (hx : a.eval x = v) (vs : List Value) (hv : v.cells = vs.toArray)
    (h : ∀ g w', Hp w0 w' (.blk g ty vs :: L) → wpList P ops Q rest (a.put o.dst (.pointer (some ⟨g, 0, none⟩))) w') : wpList P ops Q (o :: rest) a w := by
  refine BigFrame.wpList_want hw fun K hK => ?_
  have := h _ _ (H.alloc ty vs)
  unfold Oper.wp
  simp [execOp, ho, Instr.box, newVar, newRow, hx, hv]
  exact hK _ _ this
theorem Hp.wlLd (H : Hp w0 w L) (ty : TypeId) (x : Operand) (ho : o.op = .load ty x) (hw : Region.wanted o (yielded ops a.tmps) = true) (g off : Nat) (hx : a.eval x = .pointer (some ⟨g, off, none⟩)) (hc : cellT P ty = true)
    (i : Nat) (t : TypeId) (cs : List Value) (hL : Has L i (.blk g t cs)) (v : Value) (hv : cs[off]? = some v) (h : wpList P ops Q rest (a.put o.dst v) w) : wpList P ops Q (o :: rest) a w := by
  refine BigFrame.wpList_want hw fun K hK => ?_
  have := run_loadAt_cell (P := P) hc (H.c i hL.get off hv)
  unfold Oper.wp
  simp [execOp, ho, hx, this]
  exact hK _ _ h
theorem Hp.wlLdOld (H : Hp w0 w L) (ty : TypeId) (x : Operand) (ho : o.op = .load ty x) (hw : Region.wanted o (yielded ops a.tmps) = true) (p : Addr) (hx : a.eval x = .pointer (some p)) (v : Value) (hv : w0.cell? p = some v) (hc : cellT P ty = true)
    (h : wpList P ops Q rest (a.put o.dst v) w) : wpList P ops Q (o :: rest) a w := by
  refine BigFrame.wpList_want hw fun K hK => ?_
  have := run_loadAt_cell (P := P) hc (H.old hv)
  unfold Oper.wp
  simp [execOp, ho, hx, this]
  exact hK _ _ h
/-- a whole block -/
theorem Hp.wlLdAll (H : Hp w0 w L) (ty : TypeId) (x : Operand) (ho : o.op = .load ty x) (hw : Region.wanted o (yielded ops a.tmps) = true) (g : Nat) (hx : a.eval x = .pointer (some ⟨g, 0, none⟩)) (n : Nat) (hn : sizeT P ty = some n)
    (i : Nat) (t : TypeId) (cs : List Value) (hL : Has L i (.blk g t cs)) (hl : cs.length = n) (hc : rowT P ty = true) (h : wpList P ops Q rest (a.put o.dst (.agg cs.toArray)) w) : wpList P ops Q (o :: rest) a w := by
  refine BigFrame.wpList_want hw fun K hK => ?_
  have := run_loadAt_row (P := P) hc (by rw [hl]; exact hn) (H.range i hL.get 0 n (vs := cs) (by rw [List.drop_zero, ← hl, List.take_length]))
  unfold Oper.wp
  simp [execOp, ho, hx, this]
  exact hK _ _ h
theorem Hp.wlLdRow (H : Hp w0 w L) (ty : TypeId) (x : Operand) (ho : o.op = .load ty x) (hw : Region.wanted o (yielded ops a.tmps) = true) (g off : Nat) (hx : a.eval x = .pointer (some ⟨g, off, none⟩)) (vs : List Value) (hn : sizeT P ty = some vs.length)
    (i : Nat) (t : TypeId) (cs : List Value) (hL : Has L i (.blk g t cs)) (hv : (cs.drop off).take vs.length = vs) (hc : rowT P ty = true) (h : wpList P ops Q rest (a.put o.dst (.agg vs.toArray)) w) : wpList P ops Q (o :: rest) a w := by
  refine BigFrame.wpList_want hw fun K hK => ?_
  have := run_loadAt_row (P := P) hc hn (H.range i hL.get off _ hv)
  unfold Oper.wp
  simp [execOp, ho, hx, this]
  exact hK _ _ h
theorem run_storeAt_cell {ty : TypeId} (hn : sizeT P ty = some 1) {w : World} {p : Addr} {v u : Value} (h : w.cell? p = some u) (hf : w.frozen? p = false) (h1 : v.oneCell' = true) : (Instr.storeAt ty (.pointer (some p)) v).run P w = .ok () (w.setCell p v) := by
  have hv : v.cells = #[v] := by cases v <;> first | rfl | cases h1
  obtain ⟨b, o, sp⟩ := p
  have hsp : sp = none := World.cell?_spot h
  subst hsp
  have h2 := run_storeCells_cells (P := P) b o [v] 0 w (fun j hj => by simp at hj; subst hj; simp [h]) (fun j hj => by simp at hj; subst hj; simpa using hf) (by simpa using h1)
  unfold sizeT at hn
  cases hq : P.info? ty with
  | none => simp [hq] at hn
  | some i =>
    have hs : i.size = 1 := by simpa [hq] using hn
    have h3 : (storeVar ty ⟨b, o, none⟩ v).run P w = .ok () (w.setCell ⟨b, o, none⟩ v) := by
      simp only [Nat.add_zero] at h2
      have e : w.setCells b o [v] = w.setCell ⟨b, o, none⟩ v := rfl
      rw [e] at h2
      simp [storeVar, sizeOf, typeInfo, hq, hv, hs, h2]
    simp only [Instr.storeAt, Instr.sureAddr, Sem.run_bind, Sem.run_pure, Result.andThen_ok, h3]
theorem Hp.wlSt (H : Hp w0 w L) (ty : TypeId) (x y : Operand) (ho : o.op = .store ty x y) (hw : Region.wanted o (yielded ops a.tmps) = true) (g off : Nat) (hx : a.eval x = .pointer (some ⟨g, off, none⟩))
    (i : Nat) (t : TypeId) (cs : List Value) (hL : Has L i (.blk g t cs)) (v : Value) (hy : a.eval y = v) (h1 : v.oneCell' = true) (u : Value) (hl : cs[off]? = some u) (hn : sizeT P ty = some 1)
    (h : ∀ w', Hp w0 w' (L.set i (.blk g t (cs.set off v))) → wpList P ops Q rest (a.put o.dst undef) w') : wpList P ops Q (o :: rest) a w := by
  refine BigFrame.wpList_want hw fun K hK => ?_
  have := run_storeAt_cell (P := P) hn (H.c i hL.get off hl) ((H.b i hL.get).frozen _) h1
  have h2 := h _ (H.setBlk i hL.get off v)
  unfold Oper.wp
  simp [execOp, ho, hx, hy, this]
  exact hK _ _ h2
/-- into the midst of a block -/
theorem Hp.wlStRow (H : Hp w0 w L) (ty : TypeId) (x y : Operand) (ho : o.op = .store ty x y) (hw : Region.wanted o (yielded ops a.tmps) = true) (g off : Nat) (hx : a.eval x = .pointer (some ⟨g, off, none⟩)) (vs : List Value) (hy : a.eval y = .agg vs.toArray) (n : Nat) (hn : sizeT P ty = some n) (hln : vs.length = n)
    (i : Nat) (t : TypeId) (cs : List Value) (hL : Has L i (.blk g t cs)) (h1 : vs.all (·.oneCell') = true) (cs' : List Value) (hcs : cs.take off ++ (vs ++ cs.drop (off + n)) = cs') (m : Nat) (hm : cs.length = m) (hl : off + n ≤ m)
    (h : ∀ w', Hp w0 w' (L.set i (.blk g t cs')) → wpList P ops Q rest (a.put o.dst undef) w') : wpList P ops Q (o :: rest) a w := by
  refine BigFrame.wpList_want hw fun K hK => ?_
  subst hln hm
  have := run_storeAt_mid (P := P) w g off ty vs.toArray (H.there i hL.get off _ (by simpa using hl)) (by rw [List.size_toArray]; exact hn) (by simpa using h1)
  have h3 := H.setRange i hL.get off vs hl
  rw [List.append_assoc, hcs] at h3
  have h2 := h _ h3
  unfold Oper.wp
  simp [execOp, ho, hx, hy, this]
  exact hK _ _ h2

/-! .. the operation written out, what is to be found behind '∃'. -/
variable {d : Option Tmp} {ty tt : TypeId} {x y : Operand} {ps : String} {af : Array Edge} {gd : Option (Nat × Bool)}
theorem Hp.box (H : Hp w0 w L) (h : Region.wanted { dst := d, op := .box ty x, type := tt, pos := ps, after := af, guard := gd } (yielded ops a.tmps) = true ∧ ∃ vs : List Value, (a.eval x).cells = vs.toArray ∧
    ∀ g w', Hp w0 w' (.blk g ty vs :: L) → wpList P ops Q rest (a.put d (.pointer (some ⟨g, 0, none⟩))) w') :
    wpList P ops Q ({ dst := d, op := .box ty x, type := tt, pos := ps, after := af, guard := gd } :: rest) a w := by
  obtain ⟨h1, vs, h2, h3⟩ := h
  exact H.wlBox ty x rfl h1 _ rfl vs h2 h3
theorem Hp.allo (H : Hp w0 w L) (h : Region.wanted { dst := d, op := .alloc ty, type := tt, pos := ps, after := af, guard := gd } (yielded ops a.tmps) = true ∧ ∃ vs : List Value, zeroC P ty = some vs.toArray ∧
    ∀ g w', Hp w0 w' (.blk g ty vs :: L) → wpList P ops Q rest (a.put d (.pointer (some ⟨g, 0, none⟩))) w') :
    wpList P ops Q ({ dst := d, op := .alloc ty, type := tt, pos := ps, after := af, guard := gd } :: rest) a w := by
  obtain ⟨h1, vs, h2, h3⟩ := h
  exact H.wlAlloc ty rfl h1 vs h2 h3
theorem Hp.ld (H : Hp w0 w L) (h : Region.wanted { dst := d, op := .load ty x, type := tt, pos := ps, after := af, guard := gd } (yielded ops a.tmps) = true ∧ oneT P ty = true ∧ ∃ g off, a.eval x = .pointer (some ⟨g, off, none⟩) ∧
    ∃ i t cs, Has L i (.blk g t cs) ∧ ∃ v, cs[off]? = some v ∧ wpList P ops Q rest (a.put d v) w) :
    wpList P ops Q ({ dst := d, op := .load ty x, type := tt, pos := ps, after := af, guard := gd } :: rest) a w := by
  obtain ⟨h1, h2, g, off, h3, i, t, cs, h4, v, h5, h6⟩ := h
  exact H.wlLd ty x rfl h1 g off h3 (oneT_c h2) i t cs h4 v h5 h6
theorem Hp.ldo (H : Hp w0 w L) (h : Region.wanted { dst := d, op := .load ty x, type := tt, pos := ps, after := af, guard := gd } (yielded ops a.tmps) = true ∧ oneT P ty = true ∧ ∃ p, a.eval x = .pointer (some p) ∧
    ∃ v, w0.cell? p = some v ∧ wpList P ops Q rest (a.put d v) w) :
    wpList P ops Q ({ dst := d, op := .load ty x, type := tt, pos := ps, after := af, guard := gd } :: rest) a w := by
  obtain ⟨h1, h2, p, h3, v, h5, h6⟩ := h
  exact H.wlLdOld ty x rfl h1 p h3 v h5 (oneT_c h2) h6
theorem Hp.lda (H : Hp w0 w L) (h : Region.wanted { dst := d, op := .load ty x, type := tt, pos := ps, after := af, guard := gd } (yielded ops a.tmps) = true ∧ rowT P ty = true ∧ ∃ n, sizeT P ty = some n ∧ ∃ g, a.eval x = .pointer (some ⟨g, 0, none⟩) ∧
    ∃ i t cs, Has L i (.blk g t cs) ∧ cs.length = n ∧ wpList P ops Q rest (a.put d (.agg cs.toArray)) w) :
    wpList P ops Q ({ dst := d, op := .load ty x, type := tt, pos := ps, after := af, guard := gd } :: rest) a w := by
  obtain ⟨h1, h2, n, h3, g, h4, i, t, cs, h5, h6, h7⟩ := h
  exact H.wlLdAll ty x rfl h1 g h4 n h3 i t cs h5 h6 h2 h7
theorem Hp.ldr (vs : List Value) (H : Hp w0 w L) (h : Region.wanted { dst := d, op := .load ty x, type := tt, pos := ps, after := af, guard := gd } (yielded ops a.tmps) = true ∧ rowT P ty = true ∧ sizeT P ty = some vs.length ∧ ∃ g off, a.eval x = .pointer (some ⟨g, off, none⟩) ∧
    ∃ i t cs, Has L i (.blk g t cs) ∧ (cs.drop off).take vs.length = vs ∧ wpList P ops Q rest (a.put d (.agg vs.toArray)) w) :
    wpList P ops Q ({ dst := d, op := .load ty x, type := tt, pos := ps, after := af, guard := gd } :: rest) a w := by
  obtain ⟨h1, h2, h3, g, off, h4, i, t, cs, h5, h6, h7⟩ := h
  exact H.wlLdRow ty x rfl h1 g off h4 vs h3 i t cs h5 h6 h2 h7
theorem Hp.sto (H : Hp w0 w L) (h : Region.wanted { dst := d, op := .store ty x y, type := tt, pos := ps, after := af, guard := gd } (yielded ops a.tmps) = true ∧ oneT P ty = true ∧ ∃ g off, a.eval x = .pointer (some ⟨g, off, none⟩) ∧
    ∃ i t cs, Has L i (.blk g t cs) ∧ (∃ u, cs[off]? = some u) ∧ (a.eval y).oneCell' = true ∧ ∀ w', Hp w0 w' (L.set i (.blk g t (cs.set off (a.eval y)))) → wpList P ops Q rest (a.put d undef) w') :
    wpList P ops Q ({ dst := d, op := .store ty x y, type := tt, pos := ps, after := af, guard := gd } :: rest) a w := by
  obtain ⟨h1, h2, g, off, h3, i, t, cs, h4, ⟨u, h5⟩, h6, h7⟩ := h
  exact H.wlSt ty x y rfl h1 g off h3 i t cs h4 _ rfl h6 u h5 (oneT_s h2) h7
theorem Hp.sta (H : Hp w0 w L) (h : Region.wanted { dst := d, op := .store ty x y, type := tt, pos := ps, after := af, guard := gd } (yielded ops a.tmps) = true ∧ ∃ n, sizeT P ty = some n ∧ ∃ g, a.eval x = .pointer (some ⟨g, 0, none⟩) ∧
    ∃ vs : List Value, a.eval y = .agg vs.toArray ∧ vs.length = n ∧ ∃ i t cs, Has L i (.blk g t cs) ∧ vs.all (·.oneCell') = true ∧ cs.length = n ∧
    ∀ w', Hp w0 w' (L.set i (.blk g t vs)) → wpList P ops Q rest (a.put d undef) w') :
    wpList P ops Q ({ dst := d, op := .store ty x y, type := tt, pos := ps, after := af, guard := gd } :: rest) a w := by
  obtain ⟨h1, n, h2, g, h3, vs, h4, h5, i, t, cs, h6, h7, h8, h11⟩ := h
  refine H.wlStRow ty x y rfl h1 g 0 h3 vs h4 n h2 h5 i t cs h6 h7 vs ?_ n h8 (by omega) h11
  rw [List.take_zero, List.nil_append, Nat.zero_add, ← h8, List.drop_length, List.append_nil]
theorem Hp.bld (H : Hp w0 w L) {t : TypeId} {parts : Array (Nat × Operand)} (h : Region.wanted { dst := d, op := .build t parts, type := tt, pos := ps, after := af, guard := gd } (yielded ops a.tmps) = true ∧
    ∃ cs : List Value, P.built t (parts.map fun (i, x) => (i, a.eval x)).toList = some cs.toArray ∧ wpList P ops Q rest (a.put d (.agg cs.toArray)) w) :
    wpList P ops Q ({ dst := d, op := .build t parts, type := tt, pos := ps, after := af, guard := gd } :: rest) a w := by
  obtain ⟨h1, cs, h2, h3⟩ := h
  refine BigFrame.wpList_want h1 fun K hK => ?_
  have := run_build (P := P) w t _ _ h2
  unfold Oper.wp
  simp [execOp, this]
  exact hK _ _ h3
theorem Hp.str (H : Hp w0 w L) (h : Region.wanted { dst := d, op := .store ty x y, type := tt, pos := ps, after := af, guard := gd } (yielded ops a.tmps) = true ∧ ∃ n, sizeT P ty = some n ∧ ∃ g off, a.eval x = .pointer (some ⟨g, off, none⟩) ∧
    ∃ vs : List Value, a.eval y = .agg vs.toArray ∧ vs.length = n ∧ ∃ i t cs, Has L i (.blk g t cs) ∧ vs.all (·.oneCell') = true ∧ ∃ cs', cs.take off ++ (vs ++ cs.drop (off + n)) = cs' ∧ ∃ m, cs.length = m ∧ off + n ≤ m ∧
    ∀ w', Hp w0 w' (L.set i (.blk g t cs')) → wpList P ops Q rest (a.put d undef) w') :
    wpList P ops Q ({ dst := d, op := .store ty x y, type := tt, pos := ps, after := af, guard := gd } :: rest) a w := by
  obtain ⟨h1, n, h2, g, off, h3, vs, h4, h5, i, t, cs, h6, h7, cs', h8, m, h9, h10, h11⟩ := h
  exact H.wlStRow ty x y rfl h1 g off h3 vs h4 n h2 h5 i t cs h6 h7 cs' h8 m h9 h10 h11

/-! A region that draws its order. -/
def HpS (w0 : World) (L : List Item) := { w : World // Hp w0 w L }
theorem wp_region_hp (H : Hp w0 w L) {id : Nat} {l : List Oper} (hm : P.follows .mixedOrders = true) (hB : Region.lexB .any l.toArray = true)
    (h : ∀ [Nonempty (HpS w0 L)], wpQuiet P l.toArray (fun w' => ∃ x : HpS w0 L, w' = x.val) (fun a' => ∀ w', (∃ x : HpS w0 L, w' = x.val) → Q .normal a' w') l a) : (Code.region id l.toArray true).wp P Q a w := by
  haveI : Nonempty (HpS w0 L) := ⟨⟨w, H⟩⟩
  exact wp_region_quiet (C := fun w' => ∃ x : HpS w0 L, w' = x.val) hm hB ⟨⟨_, H.drew⟩, rfl⟩ (by simpa using h)
theorem quiet_of_run {K : Act → Prop} {C : World → Prop} {o : Oper} {a : Act} (v : Value) (h : ∀ w, C w → (execOp a.eval o).run P w = .ok (.value v) w) (hk : K (a.put o.dst v)) : o.quiet P a C K :=
  ⟨v, fun w hw => by unfold Oper.quietAt; rw [h w hw]; exact ⟨rfl, rfl⟩, hk⟩
theorem hq_ld {Q : Act → Prop} (h : Region.wanted { dst := d, op := .load ty x, type := tt, pos := ps, after := af, guard := gd } (yielded ops a.tmps) = true ∧ oneT P ty = true ∧ ∃ g off, a.eval x = .pointer (some ⟨g, off, none⟩) ∧
    ∃ i t cs, Has L i (.blk g t cs) ∧ ∃ v, cs[off]? = some v ∧ wpQuiet P ops (fun w' => ∃ x : HpS w0 L, w' = x.val) Q rest (a.put d v)) :
    wpQuiet P ops (fun w' => ∃ x : HpS w0 L, w' = x.val) Q ({ dst := d, op := .load ty x, type := tt, pos := ps, after := af, guard := gd } :: rest) a := by
  obtain ⟨h1, h2, g, off, hx, i, t, cs, hL, v, hv, h⟩ := h
  refine BigFrame.wpQuiet_want h1 fun K hK => quiet_of_run v ?_ (hK _ h)
  rintro w ⟨⟨w, H⟩, rfl⟩
  have := run_loadAt_cell (P := P) (oneT_c h2) (H.c i hL.get off hv)
  simp [execOp, hx, this]
theorem hq_ldo {Q : Act → Prop} (h : Region.wanted { dst := d, op := .load ty x, type := tt, pos := ps, after := af, guard := gd } (yielded ops a.tmps) = true ∧ oneT P ty = true ∧ ∃ p, a.eval x = .pointer (some p) ∧
    ∃ v, w0.cell? p = some v ∧ wpQuiet P ops (fun w' => ∃ x : HpS w0 L, w' = x.val) Q rest (a.put d v)) :
    wpQuiet P ops (fun w' => ∃ x : HpS w0 L, w' = x.val) Q ({ dst := d, op := .load ty x, type := tt, pos := ps, after := af, guard := gd } :: rest) a := by
  obtain ⟨h1, h2, p, hx, v, hv, h⟩ := h
  refine BigFrame.wpQuiet_want h1 fun K hK => quiet_of_run v ?_ (hK _ h)
  rintro w ⟨⟨w, H⟩, rfl⟩
  have := run_loadAt_cell (P := P) (oneT_c h2) (H.old hv)
  simp [execOp, hx, this]
theorem hq_lda {Q : Act → Prop} (h : Region.wanted { dst := d, op := .load ty x, type := tt, pos := ps, after := af, guard := gd } (yielded ops a.tmps) = true ∧ rowT P ty = true ∧ ∃ n, sizeT P ty = some n ∧ ∃ g, a.eval x = .pointer (some ⟨g, 0, none⟩) ∧
    ∃ i t cs, Has L i (.blk g t cs) ∧ cs.length = n ∧ wpQuiet P ops (fun w' => ∃ x : HpS w0 L, w' = x.val) Q rest (a.put d (.agg cs.toArray))) :
    wpQuiet P ops (fun w' => ∃ x : HpS w0 L, w' = x.val) Q ({ dst := d, op := .load ty x, type := tt, pos := ps, after := af, guard := gd } :: rest) a := by
  obtain ⟨h1, h2, n, h3, g, hx, i, t, cs, hL, hl, h⟩ := h
  refine BigFrame.wpQuiet_want h1 fun K hK => quiet_of_run _ ?_ (hK _ h)
  rintro w ⟨⟨w, H⟩, rfl⟩
  have := run_loadAt_row (P := P) h2 (by rw [hl]; exact h3) (H.range i hL.get 0 n (vs := cs) (by rw [List.drop_zero, ← hl, List.take_length]))
  simp [execOp, hx, this]
theorem hq_ldr (vs : List Value) {Q : Act → Prop} (h : Region.wanted { dst := d, op := .load ty x, type := tt, pos := ps, after := af, guard := gd } (yielded ops a.tmps) = true ∧ rowT P ty = true ∧ sizeT P ty = some vs.length ∧ ∃ g off, a.eval x = .pointer (some ⟨g, off, none⟩) ∧
    ∃ i t cs, Has L i (.blk g t cs) ∧ (cs.drop off).take vs.length = vs ∧ wpQuiet P ops (fun w' => ∃ x : HpS w0 L, w' = x.val) Q rest (a.put d (.agg vs.toArray))) :
    wpQuiet P ops (fun w' => ∃ x : HpS w0 L, w' = x.val) Q ({ dst := d, op := .load ty x, type := tt, pos := ps, after := af, guard := gd } :: rest) a := by
  obtain ⟨h1, h2, h3, g, off, hx, i, t, cs, hL, hv, h⟩ := h
  refine BigFrame.wpQuiet_want h1 fun K hK => quiet_of_run _ ?_ (hK _ h)
  rintro w ⟨⟨w, H⟩, rfl⟩
  have := run_loadAt_row (P := P) h2 h3 (H.range i hL.get off _ hv)
  simp [execOp, hx, this]
theorem hq_bld {Q : Act → Prop} {t : TypeId} {parts : Array (Nat × Operand)} (h : Region.wanted { dst := d, op := .build t parts, type := tt, pos := ps, after := af, guard := gd } (yielded ops a.tmps) = true ∧
    ∃ cs : List Value, P.built t (parts.map fun (i, x) => (i, a.eval x)).toList = some cs.toArray ∧ wpQuiet P ops (fun w' => ∃ x : HpS w0 L, w' = x.val) Q rest (a.put d (.agg cs.toArray))) :
    wpQuiet P ops (fun w' => ∃ x : HpS w0 L, w' = x.val) Q ({ dst := d, op := .build t parts, type := tt, pos := ps, after := af, guard := gd } :: rest) a := by
  obtain ⟨h1, cs, h2, h⟩ := h
  refine BigFrame.wpQuiet_want h1 fun K hK => quiet_of_run _ ?_ (hK _ h)
  rintro w ⟨⟨w, H⟩, rfl⟩
  have := run_build (P := P) w t _ _ h2
  simp [execOp, this]
/-- a call in it that leaves what was there -/
theorem hq_call {f : FuncId} {args : Array Value} {x : HpS w0 L} {v : Value} (h : Calls P f args x.val (RetV x.val v)) : Calls P f args x.val fun e w'' => e = .returned v ∧ ∃ y : HpS w0 L, w'' = y.val :=
  h.mono fun _ _ ⟨he, hb⟩ => ⟨he, ⟨_, x.2.call hb⟩, rfl⟩
end

/-! Results that lie in blocks. -/
section
variable {P : Program} {fn : Func} {tmps : Array Value} {w0 w : World} {L : List Item}
theorem Hp.var (H : Hp w0 w L) {ty : TypeId} (hc : rowT P ty = true) {g : Nat} {i : Nat} {t : TypeId} {cs : List Value} (hL : Has L i (.blk g t cs)) (hn : sizeT P ty = some cs.length) : (loadVar ty ⟨g, 0, none⟩).run P w = .ok (.agg cs.toArray) w := by
  have h := run_loadAt_row (P := P) hc hn (H.range i hL.get 0 _ (vs := cs) (by rw [List.drop_zero, List.take_length]))
  simpa only [Instr.loadAt, Instr.sureAddr, Sem.run_bind, Sem.run_pure, Result.andThen_ok] using h
theorem results_c {p : Tmp} {ty : TypeId} (h : fn.results = #[.cell p ty]) {g : Nat} (hp : tmps.getD p undef = .pointer (some ⟨g, 0, none⟩)) {v : Value} (hv : (loadVar ty ⟨g, 0, none⟩).run P w = .ok v w) : (results fn tmps).run P w = .ok v w := by
  have hp' : tmps[p]?.getD undef = .pointer (some ⟨g, 0, none⟩) := by simpa using hp
  simp [results, h, hp', asAddr, hv]
theorem results_ct {p t : Tmp} {ty : TypeId} (h : fn.results = #[.cell p ty, .tmp t]) {g : Nat} (hp : tmps.getD p undef = .pointer (some ⟨g, 0, none⟩)) {v u : Value} (hv : (loadVar ty ⟨g, 0, none⟩).run P w = .ok v w) (hu : tmps.getD t undef = u) : (results fn tmps).run P w = .ok (.tuple #[v, u]) w := by
  have hp' : tmps[p]?.getD undef = .pointer (some ⟨g, 0, none⟩) := by simpa using hp
  have hu' : tmps[t]?.getD undef = u := by simpa using hu
  simp [results, h, hp', asAddr, hv, hu']
end
end Go.Proofs.YtiieakndjheknaaDoor

/-
  SIZES AND ZERO VALUES of the structs.
-/
namespace Go.Proofs.YtiieakndjheknaaDoor
set_option maxRecDepth 100000
open Go.RowKit
abbrev es : Value := .string ByteArray.empty
theorem c_int : oneT Tryd.prog 3 = true := by kernel_rfl
theorem c_u8 : oneT Tryd.prog 5 = true := by kernel_rfl
theorem c_bytes : oneT Tryd.prog 32 = true := by kernel_rfl
theorem c_reps : oneT Tryd.prog 31 = true := by kernel_rfl
theorem c_prs : oneT Tryd.prog 67 = true := by kernel_rfl
theorem s_Ballot : sizeT Tryd.prog 23 = some 2 := by kernel_rfl
theorem s_Op : sizeT Tryd.prog 25 = some 4 := by kernel_rfl
theorem s_Entry : sizeT Tryd.prog 27 = some 7 := by kernel_rfl
theorem s_Report : sizeT Tryd.prog 71 = some 11 := by kernel_rfl
theorem s_Reply : sizeT Tryd.prog 30 = some 3 := by kernel_rfl
theorem s_Msg : sizeT Tryd.prog 34 = some 27 := by kernel_rfl
theorem lookup_mem {b : Type} {l : List (Nat × b)} {x : Nat} {y : b} (h : l.lookup x = some y) : (x, y) ∈ l := by
  induction l with
  | nil => cases h
  | cons p l ih =>
    obtain ⟨u, v⟩ := p
    rw [List.lookup_cons] at h
    cases e : (x == u)
    · rw [e] at h
      exact List.mem_cons_of_mem _ (ih h)
    · rw [e] at h
      injection h with h
      have := beq_iff_eq.1 e
      subst this h
      exact List.mem_cons_self
def cells : List Nat := [3, 5, 4, 9, 32, 28, 73, 31, 37, 99, 2, 74, 36, 21, 67, 55]
def sizes : List (Nat × Nat) := [(69, 3), (86, 2), (58, 30), (38, 7), (39, 49), (41, 51), (23, 2), (25, 4), (27, 7), (71, 11), (30, 3), (34, 27)]
def zeros : List (Nat × List Value) := [(41, [.int .i64 0, .slice none 0 0, .bool false, .bool false, .bool false, .bool false, .bool false, .bool false, .bool false, .bool false, .bool false, .bool false, .bool false, .bool false, .bool false, .bool false, .bool false, .bool false, .bool false, .bool false, .bool false, .bool false, .bool false, .bool false, .bool false, .bool false, .bool false, .bool false, .bool false, .bool false, .bool false, .bool false, .bool false, .bool false, .bool false, .bool false, .bool false, .bool false, .bool false, .bool false, .bool false, .bool false, .bool false, .bool false, .bool false, .bool false, .bool false, .bool false, .bool false, .bool false, .bool false]), (69, [.int .i64 0, .slice none 0 0, .slice none 0 0]), (86, [.int .i64 0, .int .i64 0]), (23, [.int .i64 0, .int .i64 0]), (25, [.int .u8 0, es, es, es]), (27, [.int .u8 0, .int .i64 0, .int .i64 0, .int .u8 0, es, es, es]), (71, [.int .i64 0, .int .u8 0, .int .i64 0, .int .i64 0, .int .u8 0, .int .i64 0, .int .i64 0, .int .u8 0, es, es, es]), (30, [.int .i64 0, .bool false, es]), (34, [.int .u8 0, .int .i64 0, .int .i64 0, .int .i64 0, .int .i64 0, .int .i64 0, .int .i64 0, .int .i64 0, .int .i64 0, .int .i64 0, .int .i64 0, .int .u8 0, .int .i64 0, .int .i64 0, .int .u8 0, es, es, es, .int .u8 0, es, es, es, .int .i64 0, .bool false, es, .slice none 0 0, .slice none 0 0])]
theorem cells_ok : cells.all (fun x => oneT Tryd.prog x) = true := by kernel_rfl
theorem sizes_ok : sizes.all (fun x => sizeT Tryd.prog x.1 == some x.2) = true := by kernel_rfl
theorem zeros_ok : ∀ x ∈ zeros, zeroC Tryd.prog x.1 = some x.2.toArray := by
  intro x hx
  unfold zeros at hx
  repeat (first | (rcases List.mem_cons.1 hx with rfl | hx; (· kernel_rfl)) | cases hx)
theorem c_look {ty : Nat} (h : cells.contains ty = true) : oneT Tryd.prog ty = true := List.all_eq_true.1 cells_ok ty (by simpa using h)
theorem s_look {ty n : Nat} (h : sizes.lookup ty = some n) : sizeT Tryd.prog ty = some n := by
  have := List.all_eq_true.1 sizes_ok _ (lookup_mem h)
  simpa using this
theorem z_look {ty : Nat} {zs : List Value} (h : zeros.lookup ty = some zs) : zeroC Tryd.prog ty = some zs.toArray := by
  have h1 := lookup_mem h
  have h2 := zeros_ok _ h1
  exact h2
theorem hs {L : List Item} {y : Item} {g : Nat} {R : Nat → TypeId → List Value → Prop} (h : ∃ i t cs, Has L i (.blk g t cs) ∧ R (i + 1) t cs) : ∃ i t cs, Has (y :: L) i (.blk g t cs) ∧ R i t cs := by
  obtain ⟨i, t, cs, h1, h2⟩ := h
  exact ⟨_, t, cs, .s h1, h2⟩
end Go.Proofs.YtiieakndjheknaaDoor

/-
  MORE OF THE SMALL HEAP: a region that draws its order, what follows behind a variable.
-/
namespace Go.Proofs.YtiieakndjheknaaDoor
set_option maxRecDepth 100000
open Go.RowKit
set_option linter.unusedVariables false
section
variable {P : Program} {a : Act} {w0 w : World} {Q : Exit → Act → World → Prop} {L : List Item} {ops : Array Oper} {rest : List Oper} {d : Option Tmp} {ty tt : TypeId} {x y : Operand} {ps : String} {af : Array Edge} {gd : Option (Nat × Bool)}
theorem wp_region_hpK (H : Hp w0 w L) {id : Nat} {l : List Oper} (hm : P.follows .mixedOrders = true) (hB : Region.lexB .any l.toArray = true)
    (h : ∀ [Nonempty (HpS w0 L)] (K : Act → Prop), (∀ a', (∀ w', Hp w0 w' L → Q .normal a' w') → K a') → wpQuiet P l.toArray (fun w' => ∃ x : HpS w0 L, w' = x.val) K l a) : (Code.region id l.toArray true).wp P Q a w := by
  refine wp_region_hp H hm hB ?_
  intro _
  exact h _ fun a' ha w' ⟨x, hx⟩ => by subst hx; exact ha _ x.2
theorem Hp.lds (H : Hp w0 w L) (h : Region.wanted { dst := d, op := .load ty x, type := tt, pos := ps, after := af, guard := gd } (yielded ops a.tmps) = true ∧ rowT P ty = true ∧ ∃ n, sizeT P ty = some n ∧ ∃ g off, a.eval x = .pointer (some ⟨g, off, none⟩) ∧
    ∃ i t cs, Has L i (.blk g t cs) ∧ ∃ vs : List Value, (cs.drop off).take n = vs ∧ vs.length = n ∧ wpList P ops Q rest (a.put d (.agg vs.toArray)) w) :
    wpList P ops Q ({ dst := d, op := .load ty x, type := tt, pos := ps, after := af, guard := gd } :: rest) a w := by
  obtain ⟨h1, h2, n, h3, g, off, h4, i, t, cs, h5, vs, h6, h8, h7⟩ := h
  subst h8
  exact H.ldr vs ⟨h1, h2, h3, g, off, h4, i, t, cs, h5, h6, h7⟩
theorem hq_lds {Q : Act → Prop} (h : Region.wanted { dst := d, op := .load ty x, type := tt, pos := ps, after := af, guard := gd } (yielded ops a.tmps) = true ∧ rowT P ty = true ∧ ∃ n, sizeT P ty = some n ∧ ∃ g off, a.eval x = .pointer (some ⟨g, off, none⟩) ∧
    ∃ i t cs, Has L i (.blk g t cs) ∧ ∃ vs : List Value, (cs.drop off).take n = vs ∧ vs.length = n ∧ wpQuiet P ops (fun w' => ∃ x : HpS w0 L, w' = x.val) Q rest (a.put d (.agg vs.toArray))) :
    wpQuiet P ops (fun w' => ∃ x : HpS w0 L, w' = x.val) Q ({ dst := d, op := .load ty x, type := tt, pos := ps, after := af, guard := gd } :: rest) a := by
  obtain ⟨h1, h2, n, h3, g, off, h4, i, t, cs, h5, vs, h6, h8, h7⟩ := h
  subst h8
  exact hq_ldr vs ⟨h1, h2, h3, g, off, h4, i, t, cs, h5, h6, h7⟩
theorem Hp.bdl (H : Hp w0 w L) {t : TypeId} {parts : List (Nat × Operand)} (h : Region.wanted { dst := d, op := .build t parts.toArray, type := tt, pos := ps, after := af, guard := gd } (yielded ops a.tmps) = true ∧
    ∃ cs : List Value, P.built t (parts.map fun x => (x.1, a.eval x.2)) = some cs.toArray ∧ wpList P ops Q rest (a.put d (.agg cs.toArray)) w) :
    wpList P ops Q ({ dst := d, op := .build t parts.toArray, type := tt, pos := ps, after := af, guard := gd } :: rest) a w := by
  obtain ⟨h1, cs, h2, h3⟩ := h
  exact H.bld ⟨h1, cs, by simpa using h2, h3⟩
theorem hq_bdl {Q : Act → Prop} {t : TypeId} {parts : List (Nat × Operand)} (h : Region.wanted { dst := d, op := .build t parts.toArray, type := tt, pos := ps, after := af, guard := gd } (yielded ops a.tmps) = true ∧
    ∃ cs : List Value, P.built t (parts.map fun x => (x.1, a.eval x.2)) = some cs.toArray ∧ wpQuiet P ops (fun w' => ∃ x : HpS w0 L, w' = x.val) Q rest (a.put d (.agg cs.toArray))) :
    wpQuiet P ops (fun w' => ∃ x : HpS w0 L, w' = x.val) Q ({ dst := d, op := .build t parts.toArray, type := tt, pos := ps, after := af, guard := gd } :: rest) a := by
  obtain ⟨h1, cs, h2, h3⟩ := h
  exact hq_bld ⟨h1, cs, by simpa using h2, h3⟩
end
section
variable {P : Program} {a : Act} {w0 w : World} {Q : Exit → Act → World → Prop} {L : List Item} {ops : Array Oper} {rest : List Oper} {d : Option Tmp} {ty tt t2 : TypeId} {x y : Operand} {ps : String} {af : Array Edge} {gd : Option (Nat × Bool)}
theorem wl_val {o : Oper} (v : Value) (hw : Region.wanted o (yielded ops a.tmps) = true) (he : (execOp a.eval o).run P w = .ok (.value v) w) (hk : wpList P ops Q rest (a.put o.dst v) w) : wpList P ops Q (o :: rest) a w := by
  refine BigFrame.wpList_want hw fun K hK => ?_
  unfold Oper.wp
  rw [he]
  exact hK _ _ hk
end
end Go.Proofs.YtiieakndjheknaaDoor

/-
  '==' AND '!=' OF STRUCTS: entries, operations, ballots, each as one value.
-/
namespace Go.Proofs.YtiieakndjheknaaDoor
set_option maxRecDepth 100000
open Go.RowKit
set_option linter.unusedVariables false

def opEq (k : Int) (a b c : ByteArray) (k' : Int) (a' b' c' : ByteArray) : Bool := (k == k') && ((a.toList == a'.toList) && ((b.toList == b'.toList) && (c.toList == c'.toList)))
def enEq (x y : En) : Bool := (x.k == y.k) && ((x.c == y.c) && ((x.s == y.s) && opEq x.ok x.s0 x.s1 x.s2 y.ok y.s0 y.s1 y.s2))
theorem bytes_ext {a b : ByteArray} (h : a.toList = b.toList) : a = b := by
  rw [ByteArray.toList_eq, ByteArray.toList_eq] at h
  exact ByteArray.ext (Array.toList_inj.1 h)
theorem opEq_iff {k : Int} {a b c : ByteArray} {k' : Int} {a' b' c' : ByteArray} : opEq k a b c k' a' b' c' = true ↔ k = k' ∧ a = a' ∧ b = b' ∧ c = c' := by
  unfold opEq
  simp only [Bool.and_eq_true, beq_iff_eq]
  constructor
  · rintro ⟨h1, h2, h3, h4⟩
    exact ⟨h1, bytes_ext h2, bytes_ext h3, bytes_ext h4⟩
  · rintro ⟨rfl, rfl, rfl, rfl⟩
    exact ⟨rfl, rfl, rfl, rfl⟩
theorem enEq_iff {x y : En} : enEq x y = true ↔ x = y := by
  obtain ⟨k, c, s, ok, s0, s1, s2⟩ := x
  obtain ⟨k', c', s', ok', s0', s1', s2'⟩ := y
  unfold enEq
  simp only [Bool.and_eq_true, beq_iff_eq, opEq_iff, En.mk.injEq]
theorem empty_toList : ByteArray.empty.toList = [] := by rw [ByteArray.toList_eq]; rfl
theorem mt_beq (s : ByteArray) : (s.toList == ByteArray.empty.toList) = mtB s := by
  rw [empty_toList, mtB]
  cases s.toList <;> rfl
theorem enEq_noop (e : En) : enEq e noop = isNoop e := by
  unfold enEq isNoop opEq noop
  simp only [mt_beq]

set_option maxHeartbeats 400000 in
theorem eq_op (k : Int) (a b c : ByteArray) (k' : Int) (a' b' c' : ByteArray) (d : Nat) (w : World) : (Op.equalIn (d + 1 + 1) 25 (.agg (opC k a b c).toArray) (.agg (opC k' a' b' c').toArray)).run Tryd.prog w = .ok (opEq k a b c k' a' b' c') w := by
  have u3 := Tryd.underlying5
  have u4 := Tryd.underlying9
  have hS : Tryd.prog.underlying 25 = some (.struct (Tryd.prog.fieldsOf 25)) := by kernel_rfl
  rw [run_equalIn_agg w _ 25 _ _ hS (by kernel_rfl)]
  simp only [Program.fieldsOf, Tryd.underlying25, opC]
  go_simp
  unfold opEq
  cases h1 : (k == k') <;> cases h2 : (a.toList == a'.toList) <;> cases h3 : (b.toList == b'.toList) <;> cases h4 : (c.toList == c'.toList) <;> simp_all
set_option maxHeartbeats 400000 in
theorem eq_en (x y : En) (d : Nat) (w : World) : (Op.equalIn (d + 1 + 1 + 1) 27 (.agg (enC x).toArray) (.agg (enC y).toArray)).run Tryd.prog w = .ok (enEq x y) w := by
  have u3 := Tryd.underlying5
  have u4 := Tryd.underlying3
  have hS : Tryd.prog.underlying 27 = some (.struct (Tryd.prog.fieldsOf 27)) := by kernel_rfl
  have ho := eq_op x.ok x.s0 x.s1 x.s2 y.ok y.s0 y.s1 y.s2 d
  simp only [opC] at ho
  rw [run_equalIn_agg w _ 27 _ _ hS (by kernel_rfl)]
  simp only [Program.fieldsOf, Tryd.underlying27, enC]
  go_simp
  unfold enEq
  cases h1 : (x.k == y.k) <;> cases h2 : (x.c == y.c) <;> cases h3 : (x.s == y.s) <;> cases h4 : opEq x.ok x.s0 x.s1 x.s2 y.ok y.s0 y.s1 y.s2 <;> simp_all
set_option maxHeartbeats 400000 in
theorem eq_ba (r p r' p' : Int) (d : Nat) (w : World) : (Op.equalIn (d + 1 + 1) 23 (.agg #[.int .i64 r, .int .i64 p]) (.agg #[.int .i64 r', .int .i64 p'])).run Tryd.prog w = .ok ((r == r') && (p == p')) w := by
  have u4 := Tryd.underlying3
  have hS : Tryd.prog.underlying 23 = some (.struct (Tryd.prog.fieldsOf 23)) := by kernel_rfl
  rw [run_equalIn_agg w _ 23 _ _ hS (by kernel_rfl)]
  simp only [Program.fieldsOf, Tryd.underlying23]
  go_simp
  cases h1 : (r == r') <;> cases h2 : (p == p') <;> simp_all

section
variable {a : Act} {w : World} {x y : Operand} {u v : En} {k k' : Int} {s0 s1 s2 s0' s1' s2' : ByteArray} {r p r' p' : Int} {o : Oper} {t2 : TypeId}
theorem ex_eqEn (ho : o.op = .binOp .eql 27 x y t2) (hx : a.eval x = .agg (enC u).toArray) (hy : a.eval y = .agg (enC v).toArray) : (execOp a.eval o).run Tryd.prog w = .ok (.value (.bool (enEq u v))) w := by
  simp only [execOp, ho, hx, hy]
  have hm : Tryd.prog.eqGuardType Tryd.prog.depth 27 = false := by kernel_rfl
  simp [run_eqGuard_agg w _ _ _ _ _ _ hm, run_eql_struct, eq_en u v 9997 w]
theorem ex_eqOp (ho : o.op = .binOp .eql 25 x y t2) (hx : a.eval x = .agg (opC k s0 s1 s2).toArray) (hy : a.eval y = .agg (opC k' s0' s1' s2').toArray) : (execOp a.eval o).run Tryd.prog w = .ok (.value (.bool (opEq k s0 s1 s2 k' s0' s1' s2'))) w := by
  simp only [execOp, ho, hx, hy]
  have hm : Tryd.prog.eqGuardType Tryd.prog.depth 25 = false := by kernel_rfl
  simp [run_eqGuard_agg w _ _ _ _ _ _ hm, run_eql_struct, eq_op k s0 s1 s2 k' s0' s1' s2' 9998 w]
end
section
variable {a : Act} {w0 w : World} {Q : Exit → Act → World → Prop} {L : List Item} {ops : Array Oper} {rest : List Oper} {d : Option Tmp} {tt t2 : TypeId} {x y : Operand} {ps : String} {af : Array Edge} {gd : Option (Nat × Bool)}
theorem wl_eqEn (h : Region.wanted { dst := d, op := .binOp .eql 27 x y t2, type := tt, pos := ps, after := af, guard := gd } (yielded ops a.tmps) = true ∧ ∃ u v, a.eval x = .agg (enC u).toArray ∧ a.eval y = .agg (enC v).toArray ∧ wpList Tryd.prog ops Q rest (a.put d (.bool (enEq u v))) w) :
    wpList Tryd.prog ops Q ({ dst := d, op := .binOp .eql 27 x y t2, type := tt, pos := ps, after := af, guard := gd } :: rest) a w := by
  obtain ⟨h1, u, v, hx, hy, h2⟩ := h
  exact wl_val _ h1 (ex_eqEn rfl hx hy) h2
end
end Go.Proofs.YtiieakndjheknaaDoor

/-
  MORE OF THE SMALL HEAP: a region that draws the order of what it reads, then writes in one order.
-/
namespace Go.Proofs.YtiieakndjheknaaDoor
set_option maxRecDepth 100000
open Go.RowKit
set_option linter.unusedVariables false
section
variable {P : Program} {a : Act} {w0 w : World} {Q : Exit → Act → World → Prop} {L : List Item} {ops : Array Oper} {rest : List Oper} {d : Option Tmp} {ty tt : TypeId} {x y : Operand} {ps : String} {af : Array Edge} {gd : Option (Nat × Bool)}
end
end Go.Proofs.YtiieakndjheknaaDoor

/-
  MORE OF THE SMALL HEAP: a region that draws its order, by hand: what only reads is taken first, in whatever world holds these items; the rest one by one.
-/
namespace Go.Proofs.YtiieakndjheknaaDoor
set_option maxRecDepth 100000
open Go.RowKit
set_option linter.unusedVariables false
/-- these items, and whatever else -/
def HpW (w0 : World) (L0 : List Item) (w' : World) : Prop := ∃ L', Hp w0 w' (L' ++ L0)
/-- some of the items, in whatever order -/
theorem Hp.pick {w0 w : World} {L L' : List Item} (H : Hp w0 w L) (is : List Nat) (hn : is.Nodup) (h : is.map (fun i => L[i]?) = L'.map some) : Hp w0 w L' := by
  have hlen : is.length = L'.length := by have := congrArg List.length h; simpa using this
  have hget : ∀ i (hi : i < L'.length), L[is[i]'(by omega)]? = some L'[i] := fun i hi => by
    have := congrArg (fun l => l[i]?) h
    simp only [List.getElem?_map] at this
    rw [List.getElem?_eq_getElem (by omega), List.getElem?_eq_getElem hi] at this
    simpa using this
  have hmem : ∀ x ∈ L', x ∈ L := fun x hx => by
    obtain ⟨i, hi, rfl⟩ := List.getElem_of_mem hx
    exact List.mem_of_getElem? (hget i hi)
  refine ⟨H.below, fun x hx => H.holds x (hmem x hx), fun x hx => H.fresh x (hmem x hx), List.pairwise_iff_getElem.2 fun i j hi hj hij => ?_⟩
  have h1 := hget i hi
  have h2 := hget j hj
  obtain ⟨a1, e1⟩ := List.getElem?_eq_some_iff.1 h1
  obtain ⟨a2, e2⟩ := List.getElem?_eq_some_iff.1 h2
  rw [← e1, ← e2]
  have hne : is[i]'(by omega) ≠ is[j]'(by omega) := List.pairwise_iff_getElem.1 hn i j (by omega) (by omega) hij
  rcases Nat.lt_or_gt_of_ne hne with hlt | hlt
  · exact List.pairwise_iff_getElem.1 H.apart _ _ a1 a2 hlt
  · exact (List.pairwise_iff_getElem.1 H.apart _ _ a2 a1 hlt).symm
section
variable {P : Program} {md : Region.Mode} {a : Act} {w0 w : World} {Q : Exit → Act → World → Prop} {L L0 : List Item} {ops : List Oper} {fuel : Nat} {listed : Array Bool}
theorem HpW.i {L0 : List Item} {w' : World} {i : Nat} {x : Item} (hx : Has L0 i x) (L' : List Item) : Has (L' ++ L0) (i + L'.length) x := by
  induction L' with
  | nil => exact hx
  | cons y L' ih => exact .s ih
theorem hw_start (L1 L0 : List Item) (H : Hp w0 w (L1 ++ L0)) {id : Nat} {l : List Oper} (hm : P.follows .mixedOrders = true) (h : ∀ w', Hp w0 w' (L1 ++ L0) → wpAnyH P .any l.toArray Q (HpW w0 L0) l.length (Array.replicate l.length false) a w') : (Code.region id l.toArray true).wp P Q a w :=
  wp_region_held_drew (S := HpW w0 L0) hm ⟨L1, H.drew⟩ (fun hh => by
    have := h _ H.drew
    simpa using this)
theorem hw_take (hS : HpW w0 L0 w) (i : Nat) (hs : Region.noSelect ops.toArray = true) (hf : Region.free md ops.toArray listed i = true) (hr : (Region.ready md ops.toArray listed).contains i = true)
    (h : ∃ oi, ops[i]? = some oi ∧ Region.wanted oi (yielded ops.toArray a.tmps) = true ∧ ∃ v, (∀ w, HpW w0 L0 w → (execOp a.eval oi).run P w = .ok (.value v) w) ∧ (∀ c a w, Q (.panic c) (a.put oi.dst v) w → Q (.panic c) a w) ∧ wpAnyH P md ops.toArray Q (HpW w0 L0) fuel (listed.setIfInBounds i true) (a.put oi.dst v) w) : wpAnyH P md ops.toArray Q (HpW w0 L0) (fuel + 1) listed a w := by
  obtain ⟨oi, h1, h2, v, h3, hQ, h4⟩ := h
  exact wpAnyH_take (by simpa using h1) hs hf hr hQ (Or.inl ⟨h2, h3⟩) hS h4
theorem hw_lda {ty : TypeId} {g : Nat} (hc : rowT P ty = true) {n : Nat} (hn : sizeT P ty = some n) {i : Nat} {t : TypeId} {cs : List Value} (hL : Has L0 i (.blk g t cs)) (hl : cs.length = n) :
    ∀ w, HpW w0 L0 w → (Instr.loadAt ty (.pointer (some ⟨g, 0, none⟩))).run P w = .ok (.agg cs.toArray) w := by
  rintro w ⟨L', H⟩
  exact run_loadAt_row hc (by rw [hl]; exact hn) (H.range _ (HpW.i (w' := w) hL L').get 0 n (by rw [List.drop_zero, ← hl, List.take_length]))
/-- one that may come up comes up: the operation, from this world on -/
theorem hw_one (i : Nat) (hr : Region.ready md ops.toArray listed = [i]) (h : ∃ oi, ops[i]? = some oi ∧ Region.wanted oi (yielded ops.toArray a.tmps) = true ∧
      ∀ K : Act → World → Prop, (∀ a w, HpW w0 L0 w → wpAnyH P md ops.toArray Q (HpW w0 L0) fuel (listed.setIfInBounds i true) a w → K a w) → oi.wp P a w K Q) : wpAnyH P md ops.toArray Q (HpW w0 L0) (fuel + 1) listed a w := by
  obtain ⟨oi, h1, h2, h3⟩ := h
  refine wpAnyH_ready (rs := [i]) hr (by simp) (AllReadyH.cons (by simpa using h1) (fun K hK => ?_) AllReadyH.nil)
  rw [if_pos h2]
  exact h3 K fun a w hS hW => hK.out a w hS (fun _ => hW)
theorem hw_two (i j : Nat) (hr : Region.ready md ops.toArray listed = [i, j])
    (h : ∃ oi, ops[i]? = some oi ∧ Region.wanted oi (yielded ops.toArray a.tmps) = true ∧ ∀ K : Act → World → Prop, (∀ a w, HpW w0 L0 w → wpAnyH P md ops.toArray Q (HpW w0 L0) fuel (listed.setIfInBounds i true) a w → K a w) → oi.wp P a w K Q)
    (h' : ∃ oi, ops[j]? = some oi ∧ Region.wanted oi (yielded ops.toArray a.tmps) = true ∧ ∀ K : Act → World → Prop, (∀ a w, HpW w0 L0 w → wpAnyH P md ops.toArray Q (HpW w0 L0) fuel (listed.setIfInBounds j true) a w → K a w) → oi.wp P a w K Q) : wpAnyH P md ops.toArray Q (HpW w0 L0) (fuel + 1) listed a w := by
  obtain ⟨oi, h1, h2, h3⟩ := h
  obtain ⟨oj, k1, k2, k3⟩ := h'
  refine wpAnyH_ready (rs := [i, j]) hr (by simp) (AllReadyH.cons (by simpa using h1) (fun K hK => ?_) (AllReadyH.cons (by simpa using k1) (fun K hK => ?_) AllReadyH.nil))
  · rw [if_pos h2]
    exact h3 K fun a w hS hW => hK.out a w hS (fun _ => hW)
  · rw [if_pos k2]
    exact k3 K fun a w hS hW => hK.out a w hS (fun _ => hW)
/-- a call -/
theorem hw_call {oi : Oper} {K : Act → World → Prop} {f : FuncId} {args : Array Value} (he : (execOp a.eval oi).run P w = .ok (.enter f args) w) {post : Ending → World → Prop} (hc : Calls P f args w post)
    (h : ∀ e w', post e w' → ∃ v, e = .returned v ∧ K (a.put oi.dst v) w') : oi.wp P a w K Q := by
  unfold Oper.wp
  rw [he]
  exact hc.mono fun e w' hp => by
    obtain ⟨v, rfl, hk⟩ := h e w' hp
    exact hk
theorem hw_ld {ty : TypeId} {g off : Nat} (hc : oneT P ty = true) {i : Nat} {t : TypeId} {cs : List Value} (hL : Has L0 i (.blk g t cs)) {v : Value} (hv : cs[off]? = some v) :
    ∀ w, HpW w0 L0 w → (Instr.loadAt ty (.pointer (some ⟨g, off, none⟩))).run P w = .ok v w := by
  rintro w ⟨L', H⟩
  exact run_loadAt_cell (oneT_c hc) (H.c _ (HpW.i (w' := w) hL L').get off hv)
theorem hw_lds {ty : TypeId} {g off : Nat} (hc : rowT P ty = true) {n : Nat} (hn : sizeT P ty = some n) {i : Nat} {t : TypeId} {cs : List Value} (hL : Has L0 i (.blk g t cs)) {vs : List Value} (hv : (cs.drop off).take n = vs) (hl : vs.length = n) :
    ∀ w, HpW w0 L0 w → (Instr.loadAt ty (.pointer (some ⟨g, off, none⟩))).run P w = .ok (.agg vs.toArray) w := by
  rintro w ⟨L', H⟩
  exact run_loadAt_row hc (by rw [hl]; exact hn) (H.range _ (HpW.i (w' := w) hL L').get off n hv)
end
theorem ex_load {P : Program} {a : Act} {oi : Oper} {w : World} {ty : TypeId} {x : Operand} {p v : Value} (ho : oi.op = .load ty x) (hx : a.eval x = p) (h : (Instr.loadAt ty p).run P w = .ok v w) : (execOp a.eval oi).run P w = .ok (.value v) w := by
  simp [execOp, ho, hx, h]
end Go.Proofs.YtiieakndjheknaaDoor

/-
  MORE OF THE SMALL HEAP: calls that write what their caller made; a drawn region that reads twice and appends.
-/
namespace Go.Proofs.YtiieakndjheknaaDoor
set_option maxRecDepth 100000
open Go.RowKit
set_option linter.unusedVariables false

/-- a value; the small heap as told -/
def RetH (w0 : World) (L : List Item) (v : Value) (e : Ending) (w' : World) : Prop := e = .returned v ∧ Hp w0 w' L
theorem HpS.rd {w0 : World} {L : List Item} (x : HpS w0 L) {A : Option Addr} {l : List UInt8} (h : Rd w0 A l) : Rd x.val A l := h.below x.2.below
theorem Hp.rot2 {w0 w : World} {a b : Item} {L : List Item} (H : Hp w0 w (a :: b :: L)) : Hp w0 w (b :: a :: L) := H.perm (List.Perm.swap b a L)
theorem Hp.rot3 {w0 w : World} {a b c : Item} {L : List Item} (H : Hp w0 w (a :: b :: c :: L)) : Hp w0 w (b :: c :: a :: L) := (H.perm (List.Perm.swap b a (c :: L))).perm ((List.Perm.swap c a L).cons b)
/-- relative to an earlier world -/
theorem Hp.onto {w0 w w' : World} {L L' : List Item} (H : Hp w w' L') (H0 : Hp w0 w L) : Hp w0 w' (L' ++ L) := by
  have hc := H0.call H.below
  refine ⟨hc.below, ?_, ?_, ?_⟩
  · intro y hy
    rcases List.mem_append.1 hy with h | h
    · have := H.holds y h
      cases y with
      | blk g t cs => exact this
      | obj g o => exact this
      | own e size A n c xs =>
        refine ⟨this.1, ?_⟩
        rcases this.2 with hn | ⟨g, cap, cur, hv, hbb, r⟩
        · exact .inl hn
        · exact .inr ⟨g, cap, cur, hv, by have := H0.size; omega, r⟩
    · exact hc.holds y h
  · intro y hy k hk
    rcases List.mem_append.1 hy with h | h
    · have := H.fresh y h k hk
      have := H0.size
      omega
    · exact hc.fresh y h k hk
  · refine List.pairwise_append.2 ⟨H.apart, H0.apart, ?_⟩
    intro y hy z hz k hk hk2
    have := H.fresh y hy k hk
    have := H0.fresh z hz k hk2
    omega
/-- an empty slice of the call's own -/
theorem Hp.nilOwn {w0 w : World} {L : List Item} (H : Hp w0 w L) (c : Nat := 0) : Hp w0 w (.bytes none 0 [] :: L) := by
  refine ⟨H.below, ?_, ?_, ?_⟩
  · intro x hx
    rcases List.mem_cons.1 hx with rfl | hx
    · exact Own.none_ w w0.heap.size
    · exact H.holds x hx
  · intro x hx k hk
    rcases List.mem_cons.1 hx with rfl | hx
    · cases hk
    · exact H.fresh x hx k hk
  · exact List.pairwise_cons.2 ⟨fun y hy k hk => (by cases hk), H.apart⟩
section
variable {P : Program} {md : Region.Mode} {a : Act} {w0 w : World} {Q : Exit → Act → World → Prop} {L L0 : List Item} {ops : List Oper} {fuel : Nat} {listed : Array Bool}
theorem hw_value {oi : Oper} {K : Act → World → Prop} {v : Value} (he : (execOp a.eval oi).run P w = .ok (.value v) w) (hk : K (a.put oi.dst v) w) : oi.wp P a w K Q := by
  unfold Oper.wp
  rw [he]
  exact hk
/-- an operation that makes a value and turns the world, in one way -/
theorem hw_turn {oi : Oper} {K : Act → World → Prop} {v : Value} {w' : World} (he : (execOp a.eval oi).run P w = .ok (.value v) w') (hk : K (a.put oi.dst v) w') : oi.wp P a w K Q := by
  unfold Oper.wp
  rw [he]
  exact hk
end
section
variable {P : Program} {a : Act} {w0 w : World} {Q : Exit → Act → World → Prop} {L : List Item} {ops : Array Oper} {rest : List Oper} {d : Option Tmp} {ty tt : TypeId} {x y : Operand} {ps : String} {af : Array Edge} {gd : Option (Nat × Bool)}
/-- a store of one cell, the value told -/
theorem Hp.stv (H : Hp w0 w L) (h : Region.wanted { dst := d, op := .store ty x y, type := tt, pos := ps, after := af, guard := gd } (yielded ops a.tmps) = true ∧ oneT P ty = true ∧ ∃ v, a.eval y = v ∧ v.oneCell' = true ∧ ∃ g off, a.eval x = .pointer (some ⟨g, off, none⟩) ∧
    ∃ i t cs, Has L i (.blk g t cs) ∧ (∃ u, cs[off]? = some u) ∧ ∀ w', Hp w0 w' (L.set i (.blk g t (cs.set off v))) → wpList P ops Q rest (a.put d undef) w') :
    wpList P ops Q ({ dst := d, op := .store ty x y, type := tt, pos := ps, after := af, guard := gd } :: rest) a w := by
  obtain ⟨h1, h2, v, hy, h6, g, off, h3, i, t, cs, h4, ⟨u, h5⟩, h7⟩ := h
  exact H.wlSt ty x y rfl h1 g off h3 i t cs h4 _ hy h6 u h5 (oneT_s h2) h7
end
/-- a store of one cell -/
theorem hw_sto {P : Program} {a : Act} {w0 w : World} {Q : Exit → Act → World → Prop} {L : List Item} {oi : Oper} {K : Act → World → Prop} {ty : TypeId} {x y : Operand} {g off : Nat} {v : Value} (hc : oneT P ty = true) (ho : oi.op = .store ty x y) (hx : a.eval x = .pointer (some ⟨g, off, none⟩)) (hy : a.eval y = v) (H : Hp w0 w L) {i : Nat} {t : TypeId} {cs : List Value} (hL : Has L i (.blk g t cs)) (hl : off < cs.length) (h1 : v.oneCell' = true)
    (h : ∀ w', Hp w0 w' (L.set i (.blk g t (cs.set off v))) → K (a.put oi.dst undef) w') : oi.wp P a w K Q := by
  have hu : ∃ u, cs[off]? = some u := ⟨cs[off], List.getElem?_eq_getElem hl⟩
  obtain ⟨u, hu⟩ := hu
  have hh := run_storeAt_cell (P := P) (oneT_s hc) (H.c i hL.get off hu) ((H.b i hL.get).frozen off) h1
  have h4 := h _ (H.setBlk i hL.get off v)
  unfold Oper.wp
  simp [execOp, ho, hx, hy, hh]
  exact h4
end Go.Proofs.YtiieakndjheknaaDoor

/-
  MORE OF THE SMALL HEAP: slices that are built out of their parts; '==' of structs whose answer is known.
-/
namespace Go.Proofs.YtiieakndjheknaaDoor
set_option maxRecDepth 100000
open Go.RowKit
set_option linter.unusedVariables false

section
variable {a : Act} {w0 w : World} {Q : Exit → Act → World → Prop} {L : List Item} {ops : Array Oper} {rest : List Oper} {d : Option Tmp} {tt : TypeId} {ps : String} {af : Array Edge} {gd : Option (Nat × Bool)}
end
end Go.Proofs.YtiieakndjheknaaDoor

/-
  MORE OF THE SMALL HEAP: rows of an argument.
-/
namespace Go.Proofs.YtiieakndjheknaaDoor
set_option maxRecDepth 100000
open Go.RowKit
set_option linter.unusedVariables false
section
variable {P : Program} {a : Act} {w0 w : World} {Q : Exit → Act → World → Prop} {L : List Item} {ops : Array Oper} {rest : List Oper} {d : Option Tmp} {ty tt t2 : TypeId} {x y : Operand} {ps : String} {af : Array Edge} {gd : Option (Nat × Bool)}
theorem Hp.oldRange (H : Hp w0 w L) {b off : Nat} {vs : List Value} (h : w0.rangeAt b off vs) : w.rangeAt b off vs := fun j v hj => H.old (h j v hj)
theorem Hp.ldrO (H : Hp w0 w L) (h : Region.wanted { dst := d, op := .load ty x, type := tt, pos := ps, after := af, guard := gd } (yielded ops a.tmps) = true ∧ rowT P ty = true ∧ ∃ b off, a.eval x = .pointer (some ⟨b, off, none⟩) ∧
    ∃ vs : List Value, w0.rangeAt b off vs ∧ sizeT P ty = some vs.length ∧ wpList P ops Q rest (a.put d (.agg vs.toArray)) w) :
    wpList P ops Q ({ dst := d, op := .load ty x, type := tt, pos := ps, after := af, guard := gd } :: rest) a w := by
  obtain ⟨h1, h2, b, off, hx, vs, hr, hn, hk⟩ := h
  have := run_loadAt_row (P := P) h2 hn (H.oldRange hr)
  exact wl_val _ h1 (by simp [execOp, hx, this]) hk
theorem hq_ldrO {Q : Act → Prop} (h : Region.wanted { dst := d, op := .load ty x, type := tt, pos := ps, after := af, guard := gd } (yielded ops a.tmps) = true ∧ rowT P ty = true ∧ ∃ b off, a.eval x = .pointer (some ⟨b, off, none⟩) ∧
    ∃ vs : List Value, w0.rangeAt b off vs ∧ sizeT P ty = some vs.length ∧ wpQuiet P ops (fun w' => ∃ x : HpS w0 L, w' = x.val) Q rest (a.put d (.agg vs.toArray))) :
    wpQuiet P ops (fun w' => ∃ x : HpS w0 L, w' = x.val) Q ({ dst := d, op := .load ty x, type := tt, pos := ps, after := af, guard := gd } :: rest) a := by
  obtain ⟨h1, h2, b, off, hx, vs, hr, hn, hk⟩ := h
  refine BigFrame.wpQuiet_want h1 fun K hK => quiet_of_run _ ?_ (hK _ hk)
  rintro w ⟨⟨w, H⟩, rfl⟩
  have := run_loadAt_row (P := P) h2 hn (H.oldRange hr)
  simp [execOp, hx, this]
end
end Go.Proofs.YtiieakndjheknaaDoor

/-
  A CALL IN A DRAWN REGION, BY HAND.
-/
namespace Go.Proofs.YtiieakndjheknaaDoor
set_option maxRecDepth 100000
open Go.RowKit
theorem ex_calln_k {P : Program} {r : Operand → Value} {oi : Oper} {w : World} {x : Operand} {xs : List Operand} {ts : Array TypeId} {k : Nat} {vs : List Value} (ho : oi.op = .call { callee := .value x, args := xs.toArray, argTypes := ts }) (hcf : ∀ args w, (callFunc k args).run P w = .ok (.enter k args) w) (hx : r x = .func (.func k) #[] #[]) (hv : xs.map r = vs) : (execOp r oi).run P w = .ok (.enter k vs.toArray) w := by
  subst hv
  simp [execOp, ho, hx, resolve, invoke, Deferred.ofValue, go_sem, hcf]
theorem hw_callk {P : Program} {a : Act} {w : World} {Q : Exit → Act → World → Prop} {oi : Oper} {K : Act → World → Prop} {x : Operand} {xs : List Operand} {ts : Array TypeId} {k : Nat} {vs : List Value} {post : Ending → World → Prop} (hc : Calls P k vs.toArray w post) (hcf : ∀ args w, (callFunc k args).run P w = .ok (.enter k args) w)
    (ho : oi.op = .call { callee := .value x, args := xs.toArray, argTypes := ts }) (hx : a.eval x = .func (.func k) #[] #[]) (hv : xs.map a.eval = vs) (h : ∀ e w', post e w' → ∃ v, e = .returned v ∧ K (a.put oi.dst v) w') : oi.wp P a w K Q :=
  hw_call (ex_calln_k ho hcf hx hv) hc h
/-- a call that makes bytes of its own -/
theorem hw_callB {P : Program} {a : Act} {w0 w : World} {Q : Exit → Act → World → Prop} {L : List Item} {oi : Oper} {K : Act → World → Prop} {x : Operand} {xs : List Operand} {ts : Array TypeId} {k : Nat} {vs : List Value} {l : List UInt8} (hc : Calls P k vs.toArray w (RetB w l)) (hcf : ∀ args w, (callFunc k args).run P w = .ok (.enter k args) w)
    (ho : oi.op = .call { callee := .value x, args := xs.toArray, argTypes := ts }) (hx : a.eval x = .func (.func k) #[] #[]) (hv : xs.map a.eval = vs) (H : Hp w0 w L)
    (h : ∀ A c w', Hp w0 w' (.bytes A c l :: L) → K (a.put oi.dst (.slice A l.length c)) w') : oi.wp P a w K Q := by
  refine hw_callk hc hcf ho hx hv ?_
  rintro e w' ⟨A, c, he, hown, hb⟩
  exact ⟨_, he, h A c w' (H.callOwn hb hown)⟩
/-- a row stored in the midst of a block -/
theorem hw_str {P : Program} {a : Act} {w0 w : World} {Q : Exit → Act → World → Prop} {L : List Item} {oi : Oper} {K : Act → World → Prop} {ty : TypeId} {x y : Operand} {g off : Nat} {vs : List Value} (ho : oi.op = .store ty x y) (hx : a.eval x = .pointer (some ⟨g, off, none⟩)) (hy : a.eval y = .agg vs.toArray) (H : Hp w0 w L) {n : Nat} (hn : sizeT P ty = some n) {i : Nat} {t : TypeId} {cs : List Value} (hL : Has L i (.blk g t cs)) (hv : vs.length = n) (hl : off + vs.length ≤ cs.length) (h1 : vs.all (·.oneCell') = true)
    (h : ∀ w', Hp w0 w' (L.set i (.blk g t (cs.take off ++ vs ++ cs.drop (off + vs.length)))) → K (a.put oi.dst undef) w') : oi.wp P a w K Q := by
  subst hv
  have h3 := H.setRange i hL.get off vs hl
  have h2 := run_storeAt_mid (P := P) w g off ty vs.toArray (H.there i hL.get off _ (by simp; omega)) (by rw [List.size_toArray]; exact hn) (by simpa using h1)
  have h4 := h _ h3
  unfold Oper.wp
  simp [execOp, ho, hx, hy, h2]
  exact h4
end Go.Proofs.YtiieakndjheknaaDoor

/-
  BYTES OF THE CALL's OWN: a byte read, a byte written.
-/
namespace Go.Proofs.YtiieakndjheknaaDoor
set_option maxRecDepth 100000
open Go.RowKit
set_option linter.unusedVariables false
theorem Hp.setB {w0 w : World} {L : List Item} (H : Hp w0 w L) (i : Nat) {g c : Nat} {l : List UInt8} (hL : L[i]? = some (.bytes (some ⟨g, 0, none⟩) c l)) (k : Nat) (x : UInt8) :
    Hp w0 (w.setCell ⟨g, k, none⟩ (.int .u8 (x.toNat : Int))) (L.set i (.bytes (some ⟨g, 0, none⟩) c (l.set k x))) := by
  have hi : i < L.length := (List.getElem?_eq_some_iff.1 hL).1
  have H1 := H.front i hL
  have hfr := (H1.fresh _ List.mem_cons_self g rfl)
  refine Hp.back i hi (H1.upd (H.below.setCell hfr.1 _) (by simp) ?_ ?_ ?_)
  · intro k hk hne
    exact Below.heap_setCell _ _ _ _ (fun e => hne (by simp [Item.foot, e]))
  · exact Own.set (H1.holds _ List.mem_cons_self) k x
  · intro k hk
    simp [Item.foot] at hk
    subst hk
    exact ⟨.inl rfl, hfr.1, by simpa using hfr.2⟩
section
variable {a : Act} {w0 w : World} {Q : Exit → Act → World → Prop} {L : List Item} {ops : Array Oper} {rest : List Oper} {d : Option Tmp} {tt : TypeId} {ps : String} {af : Array Edge} {gd : Option (Nat × Bool)} {x y : Operand}
/-- a byte is stored -/
theorem Hp.stB (H : Hp w0 w L) (h : Region.wanted { dst := d, op := .store 5 x y, type := tt, pos := ps, after := af, guard := gd } (yielded ops a.tmps) = true ∧ ∃ g off, a.eval x = .pointer (some ⟨g, off, none⟩) ∧ ∃ v, a.eval y = .int .u8 v ∧ (0 ≤ v ∧ v < 256) ∧
    ∃ i c l, Has L i (.bytes (some ⟨g, 0, none⟩) c l) ∧ off < l.length ∧ ∀ (u : UInt8) w', Hp w0 w' (L.set i (.bytes (some ⟨g, 0, none⟩) c (l.set off u))) → wpList Tryd.prog ops Q rest (a.put d undef) w') :
    wpList Tryd.prog ops Q ({ dst := d, op := .store 5 x y, type := tt, pos := ps, after := af, guard := gd } :: rest) a w := by
  obtain ⟨h1, g, off, hx, v, hy, hv, i, c, l, hL, hlt, hk⟩ := h
  have hu : ((UInt8.ofNat v.toNat).toNat : Int) = v := by
    rw [UInt8.toNat_ofNat']
    omega
  have h2 := hk (UInt8.ofNat v.toNat) _ (H.setB i hL.get off (UInt8.ofNat v.toNat))
  rw [hu] at h2
  have h3 := run_storeAt_cell (P := Tryd.prog) (v := .int .u8 v) (oneT_s c_u8) ((H.o i hL.get).cell off hlt) ((H.o i hL.get).frozen off) rfl
  refine BigFrame.wpList_want h1 fun K hK => ?_
  unfold Oper.wp
  simp [execOp, hx, hy, h3]
  exact hK _ _ h2
end
end Go.Proofs.YtiieakndjheknaaDoor

/-
  '!=' OF STRUCTS THAT ARE THE SAME.
-/
namespace Go.Proofs.YtiieakndjheknaaDoor
set_option maxRecDepth 100000
open Go.RowKit
set_option linter.unusedVariables false
theorem eq_re (k : Int) (b : Bool) (s : ByteArray) (k' : Int) (b' : Bool) (s' : ByteArray) (d : Nat) (w : World) : (Op.equalIn (d + 1 + 1) 30 (.agg #[.int .i64 k, .bool b, .string s]) (.agg #[.int .i64 k', .bool b', .string s'])).run Tryd.prog w = .ok ((k == k') && ((b == b') && (s.toList == s'.toList))) w := by
  have u3 := Tryd.underlying28
  have u4 := Tryd.underlying4
  have u5 := Tryd.underlying9
  have hS : Tryd.prog.underlying 30 = some (.struct (Tryd.prog.fieldsOf 30)) := by kernel_rfl
  rw [run_equalIn_agg w _ 30 _ _ hS (by kernel_rfl)]
  simp only [Program.fieldsOf, Tryd.underlying30]
  go_simp
  cases h1 : (k == k') <;> cases h2 : (b == b') <;> cases h3 : (s.toList == s'.toList) <;> simp_all
section
variable {a : Act} {w0 w : World} {Q : Exit → Act → World → Prop} {ops : Array Oper} {rest : List Oper} {d : Option Tmp} {tt t2 : TypeId} {x y : Operand} {ps : String} {af : Array Edge} {gd : Option (Nat × Bool)}
end
end Go.Proofs.YtiieakndjheknaaDoor

/-
  MORE OF THE SMALL HEAP: bytes that are made; bytes as a text.
-/
namespace Go.Proofs.YtiieakndjheknaaDoor
set_option maxRecDepth 100000
open Go.RowKit
set_option linter.unusedVariables false
section
variable {a : Act} {w0 w : World} {Q : Exit → Act → World → Prop} {L : List Item} {ops : Array Oper} {rest : List Oper} {d : Option Tmp} {tt : TypeId} {ps : String} {af : Array Edge} {gd : Option (Nat × Bool)} {x y : Operand}
theorem Hp.cvS (H : Hp w0 w L) (h : Region.wanted { dst := d, op := .convert 32 9 x, type := tt, pos := ps, after := af, guard := gd } (yielded ops a.tmps) = true ∧ ∃ A n c, a.eval x = .slice A n c ∧ ∃ l, Rd w A l ∧ n = l.length ∧ wpList Tryd.prog ops Q rest (a.put d (.string ⟨l.toArray⟩)) w) :
    wpList Tryd.prog ops Q ({ dst := d, op := .convert 32 9 x, type := tt, pos := ps, after := af, guard := gd } :: rest) a w := by
  obtain ⟨h1, A, n, c, hx, l, hr, hn, hk⟩ := h
  have := run_convert_str w A n c l hn hr
  exact wl_val (.string ⟨l.toArray⟩) h1 (by simp [execOp, hx, this]) hk
end
end Go.Proofs.YtiieakndjheknaaDoor
