import Derived.Test.YtiieakndjheknaaDoorRows
import Derived.WalkKit
import Derived.WalkSpells
import Derived.WalkLawsBesides
import Derived.Maps.AppendAt
import Derived.Deep.AppendLies
import Derived.Deep.Draws
import Derived.Lib.Hide
import Derived.ProofKit
import Derived.OpenShut
import Derived.ShutString
import Derived.ChangeOld
import Derived.Lib.AppendStr
import Derived.Laws.BitsAllLaws
import Derived.Deep.QuietTactic
import Derived.BigQuiet
import Derived.Deep.DeepMust
import Derived.Lib.SlBytesConst
/-
  MEMORY WORDS: a slice of bytes that reads as a list; a slice of bytes that the call itself made; append and make on it. No program in sight but for the type numbers.
-/
namespace Go.Proofs.YtiieakndjheknaaDoor
set_option maxRecDepth 100000
open Go.RowKit

/-- the value of a byte's cell -/
def bvs (l : List UInt8) : List Value := l.map fun c => Value.int .u8 (c.toNat : Int)
theorem bvs_length (l : List UInt8) : (bvs l).length = l.length := by simp [bvs]
theorem bvs_append (l m : List UInt8) : bvs (l ++ m) = bvs l ++ bvs m := by simp [bvs]
theorem bvs_one (l : List UInt8) : ∀ u ∈ bvs l, u.oneCell' = true := by
  intro u hu
  obtain ⟨c, _, rfl⟩ := List.mem_map.1 hu
  rfl
theorem bvs_get (l : List UInt8) (i : Nat) (h : i < l.length) : (bvs l)[i]? = some (.int .u8 (l[i].toNat : Int)) := by simp [bvs, h]

/-- a slice at A with as many elements as l has reads as l -/
def Rd (w : World) (A : Option Addr) (l : List UInt8) : Prop :=
  l ≠ [] → ∃ b o, A = some ⟨b, o, none⟩ ∧ ∀ (i : Nat) (h : i < l.length), w.cell? ⟨b, o + i, none⟩ = some (.int .u8 (l[i].toNat : Int))

theorem Rd.nil (w : World) (A : Option Addr) : Rd w A [] := fun h => absurd rfl h
theorem Rd.at_ {w : World} {A : Option Addr} {l : List UInt8} (h : Rd w A l) {k : Nat} (hk : k < l.length) :
    ∃ b o, A = some ⟨b, o, none⟩ ∧ ∀ (i : Nat) (h : i < l.length), w.cell? ⟨b, o + i, none⟩ = some (.int .u8 (l[i].toNat : Int)) :=
  h (fun e => by subst e; simp at hk)
theorem Rd.keep {w w' : World} {A : Option Addr} {l : List UInt8} (h : Rd w A l) (hk : ∀ b o, b < w.heap.size → w'.cell? ⟨b, o, none⟩ = w.cell? ⟨b, o, none⟩) : Rd w' A l := by
  intro hn
  obtain ⟨b, o, e, hc⟩ := h hn
  refine ⟨b, o, e, fun i hi => ?_⟩
  rw [hk b _ (World.block_lt_of_cell? w _ (hc i hi))]
  exact hc i hi
theorem Rd.below {w w' : World} {A : Option Addr} {l : List UInt8} (h : Rd w A l) (hb : Below w.heap.size w w') : Rd w' A l :=
  h.keep fun b o hlt => hb.cell (p := ⟨b, o, none⟩) hlt
theorem Rd.drew {w : World} {A : Option Addr} {l : List UInt8} (h : Rd w A l) : Rd w.drew A l := h
theorem Rd.alloc {w : World} {A : Option Addr} {l : List UInt8} (h : Rd w A l) (o : Obj) : Rd (w.alloc o) A l :=
  h.keep fun b k hlt => World.cell?_alloc_lt w o ⟨b, k, none⟩ hlt
/-- a part of it -/
theorem Rd.cut {w : World} {A : Option Addr} {l : List UInt8} (h : Rd w A l) (b o k n : Nat) (hA : A = some ⟨b, o, none⟩) (hk : k + n ≤ l.length) :
    Rd w (some ⟨b, o + k, none⟩) ((l.drop k).take n) := by
  intro hn
  refine ⟨b, o + k, rfl, fun i hi => ?_⟩
  simp only [List.length_take, List.length_drop] at hi
  obtain ⟨b', o', e, hc⟩ := h.at_ (k := k + i) (by omega)
  rw [hA] at e
  injection e with e
  injection e with e1 e2
  subst e1 e2
  have := hc (k + i) (by omega)
  rw [Nat.add_assoc, this]
  simp [List.getElem_take, List.getElem_drop]

theorem Rd.take {w : World} {A : Option Addr} {l : List UInt8} (h : Rd w A l) (n : Nat) : Rd w A (l.take n) := by
  intro hn
  obtain ⟨b, o, e, hc⟩ := h (fun e => by subst e; simp at hn)
  refine ⟨b, o, e, fun i hi => ?_⟩
  rw [List.getElem_take]
  exact hc i (by simp at hi; omega)
theorem Rd.slice {w : World} {A : Option Addr} {l : List UInt8} (h : Rd w A l) (k n c : Nat) (hk : k + n ≤ l.length) (hc : l.length ≤ c) :
    Rd w (if c = k then A else A.map (·.add k)) ((l.drop k).take n) := by
  by_cases hn : n = 0
  · subst hn
    simpa using Rd.nil w _
  · rw [if_neg (by omega)]
    obtain ⟨b, o, rfl, _⟩ := h.at_ (k := k) (by omega)
    have := h.cut b o k n rfl hk
    simpa [Addr.add_lit] using this
/-- a slice of bytes that the call itself made, in blocks from 'base' on -/
def Own (w : World) (base : Nat) (A : Option Addr) (c : Nat) (l : List UInt8) : Prop :=
  w.ownsRow base 5 1 (.slice A l.length c) l.length (bvs l)

theorem Own.none_ (w : World) (base : Nat) : Own w base none 0 [] := World.ownsRow_nil w base _ _
theorem Own.rd {w : World} {base : Nat} {A : Option Addr} {c : Nat} {l : List UInt8} (h : Own w base A c l) : Rd w A l := by
  intro hn
  have hpos : 0 < l.length := List.length_pos_iff.2 hn
  obtain ⟨g, cap, hv, _, _⟩ := World.ownsRow.form h hpos
  injection hv with hA
  subst hA
  refine ⟨g, 0, rfl, fun i hi => ?_⟩
  have := World.ownsRow.cells h (g := g) rfl i _ (bvs_get l i hi)
  rwa [Addr.add_lit] at this
theorem Own.form {w : World} {base : Nat} {A : Option Addr} {c : Nat} {l : List UInt8} (h : Own w base A c l) :
    (A = none ∧ c = 0 ∧ l = []) ∨ ∃ g, A = some ⟨g, 0, none⟩ ∧ base ≤ g ∧ g < w.heap.size ∧ l.length ≤ c ∧ c ≤ maxLen := by
  rcases h.2 with ⟨hv, hn⟩ | ⟨g, cap, cur, hv, hb, hg, hnc, hcm, _, _⟩
  · injection hv with h1 h2 h3
    exact .inl ⟨h1, h3, List.eq_nil_of_length_eq_zero h2⟩
  · injection hv with h1 h2 h3
    subst h1 h3
    exact .inr ⟨g, rfl, hb, (Array.getElem?_eq_some_iff.1 hg).1, hnc, hcm⟩
theorem Own.caps {w : World} {base : Nat} {A : Option Addr} {c : Nat} {l : List UInt8} (h : Own w base A c l) : l.length ≤ c ∧ c ≤ maxLen := by
  rcases h.form with ⟨_, rfl, rfl⟩ | ⟨_, _, _, _, h1, h2⟩
  · exact ⟨Nat.le_refl _, Nat.zero_le _⟩
  · exact ⟨h1, h2⟩
theorem Own.mono {w : World} {base base' : Nat} {A : Option Addr} {c : Nat} {l : List UInt8} (h : Own w base A c l) (hb : base' ≤ base) : Own w base' A c l := by
  refine ⟨h.1, ?_⟩
  rcases h.2 with hn | ⟨g, cap, cur, hv, hbb, r⟩
  · exact .inl hn
  · exact .inr ⟨g, cap, cur, hv, by omega, r⟩
theorem Own.block {w w' : World} {base : Nat} {A : Option Addr} {c : Nat} {l : List UInt8} (h : Own w base A c l) (hk : ∀ k, k < w.heap.size → w'.heap[k]? = w.heap[k]?) : Own w' base A c l := by
  refine ⟨h.1, ?_⟩
  rcases h.2 with hn | ⟨g, cap, cur, hv, hbb, hg, r⟩
  · exact .inl hn
  · exact .inr ⟨g, cap, cur, hv, hbb, (hk g (Array.getElem?_eq_some_iff.1 hg).1).trans hg, r⟩
theorem Own.below {w w' : World} {base : Nat} {A : Option Addr} {c : Nat} {l : List UInt8} (h : Own w base A c l) (hb : Below w.heap.size w w') : Own w' base A c l := h.block hb.block
theorem Own.drew {w : World} {base : Nat} {A : Option Addr} {c : Nat} {l : List UInt8} (h : Own w base A c l) : Own w.drew base A c l := h
theorem Own.alloc {w : World} {base : Nat} {A : Option Addr} {c : Nat} {l : List UInt8} (h : Own w base A c l) (o : Obj) : Own (w.alloc o) base A c l := World.ownsRow.alloc h o

theorem Own.cell {w : World} {base g : Nat} {c : Nat} {l : List UInt8} (h : Own w base (some ⟨g, 0, none⟩) c l) (i : Nat) (hi : i < l.length) :
    w.cell? ⟨g, i, none⟩ = some (.int .u8 (l[i].toNat : Int)) := by
  rw [World.ownsRow.cellAt h i (by simpa using hi)]
  exact bvs_get l i hi
theorem Own.frozen {w : World} {base g : Nat} {c : Nat} {l : List UInt8} (h : Own w base (some ⟨g, 0, none⟩) c l) (i : Nat) : w.frozen? ⟨g, i, none⟩ = false :=
  World.ownsRow.frozenAt h i
theorem Own.set {w : World} {base g : Nat} {c : Nat} {l : List UInt8} (h : Own w base (some ⟨g, 0, none⟩) c l) (i : Nat) (x : UInt8) :
    Own (w.setCell ⟨g, i, none⟩ (.int .u8 (x.toNat : Int))) base (some ⟨g, 0, none⟩) c (l.set i x) := by
  have := (World.ownsRow.stored h i (.int .u8 (x.toNat : Int))).1
  unfold Own
  rw [List.length_set]
  have e : bvs (l.set i x) = (bvs l).set i (.int .u8 (x.toNat : Int)) := by simp [bvs, List.map_set]
  rw [e]
  exact this
theorem Own.kept {w w' : World} {base : Nat} {A : Option Addr} {c : Nat} {l : List UInt8} {row : Option Nat} (h : Own w base A c l) (hg : w.grownBy w' row) (hne : ∀ a, A = some a → row ≠ some a.block) : Own w' base A c l := by
  refine World.ownsRow.kept h hg ?_
  cases A with
  | none => exact .inl rfl
  | some a => exact .inr (fun e => hne a rfl e.symm)

theorem run_append_of_nil {P : Program} (w : World) (base : Nat) (t ty e : TypeId) (i : TypeInfo) (size : Nat) (ht : P.underlying t = some (.slice e)) (hi : P.info? e = some i)
    (v : Value) (n : Nat) (xs : List Value) (hown : w.ownsRow base e size v n xs) (c : Nat) : (Builtin.append_ #[t, t] ty #[v, .slice none 0 c]).run P w = .ok v w := by
  rcases hown.2 with ⟨rfl, rfl⟩ | ⟨g, cap, cur, rfl, _, _, hnc, _⟩
  · simp [Builtin.append_, run_underlying ht, sizeOf, typeInfo, hi, Builtin.lenOf, Builtin.firstCells]
  · simp [Builtin.append_, run_underlying ht, sizeOf, typeInfo, hi, Builtin.lenOf, Builtin.firstCells, hnc, storeCells]

theorem u8_info : (Tryd.prog.info? 5).map (fun i => (i.zero, i.size, i.bytes)) = some (some (.int .u8 0), 1, 1) := by kernel_rfl
theorem u8_slice : Tryd.prog.underlying 32 = some (.slice 5) := Tryd.underlying32

theorem le_maxLen : 140737488355328 ≤ maxLen := by unfold maxLen; omega

theorem run_append_bytes (w : World) (ty : TypeId) (base : Nat) (A : Option Addr) (n c : Nat) (l : List UInt8) (hn : n = l.length) (hown : Own w base A c l)
    (A2 : Option Addr) (m c2 : Nat) (news : List UInt8) (hm : m = news.length) (hr : Rd w A2 news) (hlen : l.length + news.length ≤ 140737488355328) (hbase : base ≤ w.heap.size) :
    ∃ A' c' w', (Builtin.append_ #[32, 32] ty #[.slice A n c, .slice A2 m c2]).run Tryd.prog w = .ok (.slice A' (l ++ news).length c') w' ∧
      Own w' base A' c' (l ++ news) ∧ Below base w w' ∧ w.grownBy w' (Value.slice A n c).ownBlock := by
  subst hn hm
  obtain ⟨i, hi, hz0, hz1, hz2⟩ := info_parts u8_info
  rcases news with _ | ⟨x, xs⟩
  · cases A2 with
    | none =>
      refine ⟨A, c, w, ?_, by simpa using hown, Below.refl _ _, World.grownBy.refl _ _⟩
      have := run_append_of_nil (P := Tryd.prog) w base 32 ty _ i 1 u8_slice hi _ _ _ hown c2
      simpa using this
    | some ad =>
      obtain ⟨v', w', hrun, h2, h3, _⟩ := run_append_own (P := Tryd.prog) w base 32 ty _ i _ 1 1 u8_slice hi hz0 hz1 hz2 rfl (by omega) _ _ _ hown ad 0 c2 [] rfl (by simp) (by simp) (by have := le_maxLen; simp at hlen; omega) (by simp at hlen; omega) hbase
      have hv : ∃ A' c', v' = .slice A' l.length c' := by
        rcases h2.2 with ⟨hv, hn⟩ | ⟨g, cap, cur, hv, _⟩
        · exact ⟨none, 0, by rw [hv, show l.length = 0 by simpa using hn]⟩
        · exact ⟨_, _, hv⟩
      obtain ⟨A', c', rfl⟩ := hv
      refine ⟨A', c', w', by simpa using hrun, by simpa [Own] using h2, ?_, h3⟩
      exact (Below.refl _ _).grown h3 hbase (fun k hk => (World.ownsRow.lt hown k hk).1)
  · have hne : (x :: xs) ≠ [] := by simp
    obtain ⟨b, o, rfl, hc⟩ := hr hne
    obtain ⟨v', w', hrun, h2, h3, _⟩ := run_append_own (P := Tryd.prog) w base 32 ty _ i _ 1 1 u8_slice hi hz0 hz1 hz2 rfl (by omega) _ _ _ hown ⟨b, o, none⟩ (x :: xs).length c2 (bvs (x :: xs)) (by simp [bvs])
      (by
        intro j u hu
        have hj : j < (x :: xs).length := by have := (List.getElem?_eq_some_iff.1 hu).1; rwa [bvs_length] at this
        rw [Addr.add_lit, hc j hj, ← hu, bvs_get _ _ hj])
      (bvs_one _) (by have := le_maxLen; omega) (by omega) hbase
    have hv : ∃ A' c', v' = .slice A' (l ++ x :: xs).length c' := by
      rw [List.length_append]
      rcases h2.2 with ⟨hv, hn⟩ | ⟨g, cap, cur, hv, _⟩
      · exact ⟨none, 0, by rw [hv, hn]⟩
      · exact ⟨_, _, hv⟩
    obtain ⟨A', c', rfl⟩ := hv
    refine ⟨A', c', w', hrun, ?_, ?_, h3⟩
    · unfold Own
      rw [bvs_append, List.length_append] 
      rw [List.length_append] at h2
      exact h2
    · exact (Below.refl _ _).grown h3 hbase (fun k hk => (World.ownsRow.lt hown k hk).1)

theorem wpList_append_bytes {ops : Array Oper} {rest : List Oper} {o : Oper} {a : Act} {Q : Exit → Act → World → Prop} (w : World) (hgd : o.guard = none) (s x : Operand)
    (ho : o.op = .call { callee := .builtin .append, args := #[s, x], argTypes := #[32, 32] })
    (base : Nat) (A : Option Addr) (n c : Nat) (l : List UInt8) (hs : a.eval s = .slice A n c) (hn : n = l.length) (hown : Own w base A c l)
    (A2 : Option Addr) (m c2 : Nat) (news : List UInt8) (hx : a.eval x = .slice A2 m c2) (hm : m = news.length) (hr : Rd w A2 news) (hlen : l.length + news.length ≤ 140737488355328) (hbase : base ≤ w.heap.size)
    (h : ∀ A' c' w', Own w' base A' c' (l ++ news) → Below base w w' → w.grownBy w' (Value.slice A n c).ownBlock → wpList Tryd.prog ops Q rest (a.put o.dst (.slice A' (l ++ news).length c')) w') : wpList Tryd.prog ops Q (o :: rest) a w := by
  refine wpList_plain hgd fun _ hK => ?_
  obtain ⟨A', c', w', hrun, h2, h3, h4⟩ := run_append_bytes w o.type base A n c l hn hown A2 m c2 news hm hr hlen hbase
  unfold Oper.wp execOp
  simp only [ho, resolve, invoke, builtin, Sem.run_bind, Sem.run_pure, Result.andThen_ok, List.map_toArray, List.map_cons, List.map_nil, hs, hx, hrun]
  exact hK _ _ (h A' c' w' h2 h3 h4)

theorem run_convert_str (w : World) (A : Option Addr) (n c : Nat) (l : List UInt8) (hn : n = l.length) (hr : Rd w A l) :
    (convert 32 9 (.slice A n c)).run Tryd.prog w = .ok (.string ⟨l.toArray⟩) w := by
  subst hn
  have base : ∀ a : Addr, (∀ j (hj : j < l.length), w.cell? (a.add j) = some (.int .u8 (l[j].toNat : Int))) →
      (convert 32 9 (.slice (some a) l.length c)).run Tryd.prog w = .ok (.string ⟨l.toArray⟩) w := fun a hc =>
    run_convert_bytes_back (P := Tryd.prog) w _ _ 5 a c l u8_slice Tryd.underlying5 Tryd.underlying9 hc
  cases A with
  | none =>
    cases l with
    | nil =>
      show (convert 32 9 (.slice none 0 c)).run Tryd.prog w = _
      rw [run_convert_bytes_string w _ _ 5 none 0 c u8_slice Tryd.underlying5 Tryd.underlying9]
      simp [Conv.bytesToString]
      rfl
    | cons x xs =>
      obtain ⟨b, o, e, _⟩ := hr (by simp)
      cases e
  | some a =>
    refine base a fun j hj => ?_
    obtain ⟨b, o, e, hc⟩ := hr.at_ hj
    injection e with e
    subst e
    rw [Addr.add_lit]
    exact hc j hj

theorem own_lit (w : World) (base : Nat) (l : List UInt8) (C : Array Value) (hC : C = (bvs l).toArray) (hb : base ≤ w.heap.size) (hl : l.length ≤ maxLen) (n : Nat) (hn : n = l.length) : Own (w.alloc (.cells C 5)) base (some ⟨w.heap.size, 0, none⟩) n l := by
  subst hC hn
  have := World.ownsRow_lit (base := base) (e := 5) (size := 1) w (bvs l).toArray l.length hb hl (by simp [bvs])
  simpa [Own] using this

/-- a slice of slices of bytes -/
def RdL (w : World) (A : Option Addr) (ls : List (List UInt8)) : Prop :=
  ls ≠ [] → ∃ b o, A = some ⟨b, o, none⟩ ∧ ∀ (i : Nat) (h : i < ls.length), ∃ Ai ci, w.cell? ⟨b, o + i, none⟩ = some (.slice Ai ls[i].length ci) ∧ Rd w Ai ls[i]
theorem RdL.nil (w : World) (A : Option Addr) : RdL w A [] := fun h => absurd rfl h
theorem RdL.at_ {w : World} {A : Option Addr} {ls : List (List UInt8)} (h : RdL w A ls) {k : Nat} (hk : k < ls.length) :
    ∃ b o, A = some ⟨b, o, none⟩ ∧ ∃ Ai ci, w.cell? ⟨b, o + k, none⟩ = some (.slice Ai ls[k].length ci) ∧ Rd w Ai ls[k] := by
  obtain ⟨b, o, e, h⟩ := h (fun e => by subst e; simp at hk)
  exact ⟨b, o, e, h k hk⟩
theorem RdL.below {w w' : World} {A : Option Addr} {ls : List (List UInt8)} (h : RdL w A ls) (hb : Below w.heap.size w w') : RdL w' A ls := by
  intro hn
  obtain ⟨b, o, e, hc⟩ := h hn
  refine ⟨b, o, e, fun i hi => ?_⟩
  obtain ⟨Ai, ci, h1, h2⟩ := hc i hi
  exact ⟨Ai, ci, (hb.cell (p := ⟨b, o + i, none⟩) (World.block_lt_of_cell? w _ h1)).trans h1, h2.below hb⟩

theorem RdL.drew {w : World} {A : Option Addr} {l : List (List UInt8)} (h : RdL w A l) : RdL w.drew A l := h

theorem ret_bool {a b : Bool} (h : a = b) : Ending.returned (.bool a) = .returned (.bool b) := by rw [h]
/-- one value, nothing that was there is written -/
def RetV (w : World) (v : Value) (e : Ending) (w' : World) : Prop := e = .returned v ∧ Below w.heap.size w w'
/-- new bytes -/
def RetB (w : World) (l : List UInt8) (e : Ending) (w' : World) : Prop := ∃ A c, e = .returned (.slice A l.length c) ∧ Own w' w.heap.size A c l ∧ Below w.heap.size w w'
/-- are lists of bytes the same? -/
def eqB (l m : List UInt8) : Bool := decide (l = m)
abbrev str (l : List UInt8) : Value := .string ⟨l.toArray⟩

end Go.Proofs.YtiieakndjheknaaDoor

/-
  THE WALKS OF Same AND Copy (the reference's two words on bytes).
-/
namespace Go.Proofs.YtiieakndjheknaaDoor
set_option maxRecDepth 100000
open Go.RowKit

end Go.Proofs.YtiieakndjheknaaDoor

/-
  A BLOCK KNOWN WHOLE: memory that a call made, its cells written out.
-/
namespace Go.Proofs.YtiieakndjheknaaDoor
set_option maxRecDepth 100000
open Go.RowKit

/-- block g is just these cells, none frozen -/
def Blk (w : World) (g : Nat) (t : TypeId) (cs : Array Value) : Prop := w.heap[g]? = some (.cells cs t (0, 0))

theorem Blk.lt {w : World} {g : Nat} {t : TypeId} {cs : Array Value} (h : Blk w g t cs) : g < w.heap.size := by
  unfold Blk at h
  exact (Array.getElem?_eq_some_iff.1 h).1
theorem Blk.cell {w : World} {g : Nat} {t : TypeId} {cs : Array Value} (h : Blk w g t cs) (i : Nat) : w.cell? ⟨g, i, none⟩ = cs[i]? := cell_of_row w g i cs t (0, 0) h
theorem Blk.frozen {w : World} {g : Nat} {t : TypeId} {cs : Array Value} (h : Blk w g t cs) (i : Nat) : w.frozen? ⟨g, i, none⟩ = false := by
  unfold Blk at h
  simp [World.frozen?, h]
theorem Blk.new (w : World) (t : TypeId) (cs : Array Value) : Blk (w.alloc (.cells cs t)) w.heap.size t cs := heap_alloc_new w _
theorem Blk.alloc {w : World} {g : Nat} {t : TypeId} {cs : Array Value} (h : Blk w g t cs) (o : Obj) : Blk (w.alloc o) g t cs := (Below.heap_alloc w o g h.lt).trans h
theorem Blk.drew {w : World} {g : Nat} {t : TypeId} {cs : Array Value} (h : Blk w g t cs) : Blk w.drew g t cs := h
theorem Blk.set {w : World} {g : Nat} {t : TypeId} {cs : Array Value} (h : Blk w g t cs) (i : Nat) (u : Value) : Blk (w.setCell ⟨g, i, none⟩ u) g t (cs.setIfInBounds i u) := by
  unfold Blk at h ⊢
  simp [World.setCell, Array.getElem?_modify, h]
theorem Blk.far {w : World} {g : Nat} {t : TypeId} {cs : Array Value} (h : Blk w g t cs) {p : Addr} (hp : g ≠ p.block) (u : Value) : Blk (w.setCell p u) g t cs := (Below.heap_setCell w p u g hp).trans h
theorem Blk.below {w w' : World} {B g : Nat} {t : TypeId} {cs : Array Value} (h : Blk w g t cs) (hb : Below B w w') (hg : g < B) : Blk w' g t cs := (hb.block g hg).trans h
theorem Blk.bel {w w' : World} {g : Nat} {t : TypeId} {cs : Array Value} (h : Blk w g t cs) (hb : Below w.heap.size w w') : Blk w' g t cs := h.below hb h.lt
theorem Blk.grown {w w' : World} {g : Nat} {t : TypeId} {cs : Array Value} {row : Option Nat} (h : Blk w g t cs) (hb : w.grownBy w' row) (hg : row ≠ some g) : Blk w' g t cs :=
  (hb.block g h.lt (fun e => hg e.symm)).trans h
theorem Blk.c {w : World} {g : Nat} {t : TypeId} {cs : Array Value} (h : Blk w g t cs) (i : Nat) (v : Value) (hv : cs[i]? = some v) : w.cell? ⟨g, i, none⟩ = some v := (h.cell i).trans hv
end Go.Proofs.YtiieakndjheknaaDoor

/-
  REGIONS THAT DRAW THEIR ORDER AND WHOSE CALLEES MAKE MEMORY OF THEIR OWN: one walk in the order of the text. The class of worlds: those that are as this one below its own size.
-/
namespace Go.Proofs.YtiieakndjheknaaDoor
set_option maxRecDepth 100000
open Go.RowKit

section
variable {P : Program}
end
end Go.Proofs.YtiieakndjheknaaDoor

/-
  PLAIN: numbers as bytes, the lowest first; texts; what the chapter on octets says, as plain functions. No program in sight.
-/
namespace Go.Proofs.YtiieakndjheknaaDoor
set_option maxRecDepth 100000

def leN : List UInt8 → Nat
  | [] => 0
  | c :: l => c.toNat + 256 * leN l
def isWidth (n : Int) : Bool := n == 1 || n == 2 || n == 4 || n == 6
def many (n : Int) : Int := if n = 1 then 256 else if n = 2 then 65536 else if n = 4 then 4294967296 else if n = 6 then 281474976710656 else 0
/-- what is read of a number at a place: the number, the place behind it, the error -/
def getE (l : List UInt8) (at_ width : Int) : Int :=
  if isWidth width = false then 2 else if at_ < 0 ∨ (l.length : Int) < at_ then 2 else if (l.length : Int) - at_ < width then 10 else 0
def getN (l : List UInt8) (at_ width : Int) : Int := if getE l at_ width = 0 then (leN ((l.drop at_.toNat).take width.toNat) : Nat) else 0
def getP (l : List UInt8) (at_ width : Int) : Int := if getE l at_ width = 0 then at_ + width else 0

/-- the error of a text that is read -/
def readE (l : List UInt8) (at_ : Int) : Int :=
  if getE l at_ 1 ≠ 0 then getE l at_ 1 else if (l.length : Int) - (at_ + 1) < getN l at_ 1 then 10 else 0
def readP (l : List UInt8) (at_ : Int) : Int := if readE l at_ = 0 then at_ + 1 + getN l at_ 1 else 0

end Go.Proofs.YtiieakndjheknaaDoor

/-
  THE WALKS OF OCTET AND ITS REFERENCE: what each call answers; nothing that was there is written.
-/
namespace Go.Proofs.YtiieakndjheknaaDoor
set_option maxRecDepth 100000
open Go.RowKit

end Go.Proofs.YtiieakndjheknaaDoor

/-
  THE WALKS OF THE REFERENCE OF OCTET: each answers what the plain functions say; nothing that was there is written.
-/
namespace Go.Proofs.YtiieakndjheknaaDoor
set_option maxRecDepth 100000
open Go.RowKit

end Go.Proofs.YtiieakndjheknaaDoor

/-
  SMALL WORDS FOR WALKS: results, bytes read, what is the same.
-/
namespace Go.Proofs.YtiieakndjheknaaDoor
set_option maxRecDepth 100000
open Go.RowKit
set_option linter.unusedVariables false

def inB (n l m : Int) : Bool := decide (l ≤ n) && decide (n ≤ m)
theorem inB_true {n l m : Int} (h : inB n l m = true) : l ≤ n ∧ n ≤ m := by simpa [inB] using h
theorem bal0 (w : World) (o : Obj) : Below w.heap.size w (w.alloc o) := (Below.refl _ _).alloc (Nat.le_refl _) _
theorem retB_mk {w w' : World} {A : Option Addr} {n c : Nat} {l : List UInt8} (hn : n = l.length) (ho : Own w' w.heap.size A c l) (hb : Below w.heap.size w w') : RetB w l (.returned (.slice A n c)) w' :=
  ⟨A, c, by rw [hn], ho, hb⟩
end Go.Proofs.YtiieakndjheknaaDoor

/-
  ARGUMENTS OPENED: what the walk of a law is told of each argument; the row's step that is alike in all laws.
-/
namespace Go.Proofs.YtiieakndjheknaaDoor
set_option maxRecDepth 100000
open Go.ChangeShapes Go.WideShapes Go.ChangeAt Go.RowKit
open Go.ChangeMaps (open_string shut_string)

theorem own_ : ownKnob Tryd.prog.godebug = none := by kernel_rfl
theorem laidOut_ : laidOutB Tryd.prog = true := by kernel_rfl

section
variable {H : Type} {enc : TypeId × Value → H} {P : Program} {w : World} {base : Nat} {r : Reach} {b0 : Nat}

theorem open_int_i64 {t : TypeId} {v : Value} {d : DataW H} {ps : List MemPlace} (ht : P.underlying t = some (.int .i64)) (hval : Value.okWide P w r b0 t v) (hd : DataW.Trod enc P w base (fun _ => true) true t v d ps) :
    ∃ n : Int, v = .int .i64 n ∧ -9223372036854775808 ≤ n ∧ n ≤ 9223372036854775807 := by
  obtain ⟨n, rfl, _, _, hw⟩ := open_int ht hval hd
  simp [Lit.wf, IntKind.min, IntKind.max, IntKind.signed, IntKind.bits] at hw
  exact ⟨n, rfl, by omega, by omega⟩

end
end Go.Proofs.YtiieakndjheknaaDoor

/-
  ARGUMENTS OPENED, MORE: structs, arrays, slices of whatever elements: a list of cells that reads as a value of a type.
-/
namespace Go.Proofs.YtiieakndjheknaaDoor
set_option maxRecDepth 100000
open Go.ChangeShapes Go.WideShapes Go.ChangeAt Go.RowKit
open Go.ChangeMaps (open_string shut_string)
set_option linter.unusedVariables false

section
variable {H : Type} {enc : TypeId × Value → H} {P : Program} {w : World} {base : Nat} {r : Reach} {b0 : Nat}

/-- these cells read as a value of the type t -/
def Tr (enc : TypeId × Value → H) (P : Program) (w : World) (base : Nat) (t : TypeId) (cs : List Value) : Prop := ∃ n x, DataW.trod enc P w base (fun _ => true) true n t cs = some x

theorem Tr.of {t : TypeId} {v : Value} {d : DataW H} {ps : List MemPlace} (hd : DataW.Trod enc P w base (fun _ => true) true t v d ps) : Tr enc P w base t v.cells.toList := by
  obtain ⟨n, hn⟩ := hd
  exact ⟨n, _, hn⟩
theorem Tr.field {t : TypeId} {cs : List Value} {fs : Array Field} (h : Tr enc P w base t cs) (ht : P.underlying t = some (.struct fs)) (j : Nat) {f : Field} (hf : fs[j]? = some f) (s : Nat) (hs : P.cellsOf f.type = s) :
    Tr enc P w base f.type ((cs.drop f.offset).take s) := by
  obtain ⟨n, x, hn⟩ := h
  obtain ⟨xs, m, _, _, _, hl, hg⟩ := DataW.trod_struct ht hn
  have h1 := hg j f hf
  have hj : j < fs.size := (Array.getElem?_eq_some_iff.1 hf).1
  rw [hs, List.getElem?_eq_getElem (by omega)] at h1
  exact ⟨m, _, h1⟩
theorem Tr.elem {t e : TypeId} {k : Nat} {cs : List Value} (h : Tr enc P w base t cs) (ht : P.underlying t = some (.array k e)) (i : Nat) (hi : i < k) (s : Nat) (hs : P.cellsOf e = s) :
    Tr enc P w base e ((cs.drop (i * s)).take s) := by
  obtain ⟨n, x, hn⟩ := h
  obtain ⟨xs, m, _, _, _, hl, hg⟩ := DataW.trod_array ht hn
  have h1 := hg i hi
  rw [hs, List.getElem?_eq_getElem (by omega)] at h1
  exact ⟨m, _, h1⟩
theorem Tr.len {t : TypeId} {cs : List Value} {fs : Array Field} (h : Tr enc P w base t cs) (ht : P.underlying t = some (.struct fs)) : cs.length = P.cellsOf t := by
  obtain ⟨n, x, hn⟩ := h
  obtain ⟨_, _, _, _, hl, _⟩ := DataW.trod_struct ht hn
  exact hl
theorem Tr.i64 {t : TypeId} {c : Value} (h : Tr enc P w base t [c]) (ht : P.underlying t = some (.int .i64)) : ∃ n : Int, c = .int .i64 n ∧ -9223372036854775808 ≤ n ∧ n ≤ 9223372036854775807 := by
  obtain ⟨_, x, hn⟩ := h
  obtain ⟨n, hc, _, hw⟩ := DataW.trod_int ht hn
  simp [Lit.wf, IntKind.min, IntKind.max, IntKind.signed, IntKind.bits] at hw
  exact ⟨n, by simpa using hc, by omega, by omega⟩
theorem Tr.uint {k : IntKind} {t : TypeId} {c : Value} (h : Tr enc P w base t [c]) (hk : k.signed = false) (ht : P.underlying t = some (.int k)) : ∃ n : Nat, c = .int k n ∧ n < 2 ^ k.bits := by
  obtain ⟨_, x, hn⟩ := h
  obtain ⟨n, hc, _, hw⟩ := DataW.trod_int ht hn
  simp [Lit.wf, IntKind.min, IntKind.max, hk] at hw
  refine ⟨n.toNat, ?_, ?_⟩
  · have : c = .int k n := by simpa using hc
    rw [this]; congr; omega
  have h2 : n < 2 ^ k.bits := by omega
  have h3 : ((n.toNat : Nat) : Int) < ((2 ^ k.bits : Nat) : Int) := by
    rw [Int.toNat_of_nonneg hw.1]
    simpa using h2
  omega
theorem Tr.bool {t : TypeId} {c : Value} (h : Tr enc P w base t [c]) (ht : P.underlying t = some .bool) : ∃ b : Bool, c = .bool b := by
  obtain ⟨_, x, hn⟩ := h
  obtain ⟨b, hc, _⟩ := DataW.trod_bool ht hn
  exact ⟨b, by simpa using hc⟩
theorem Tr.str {t : TypeId} {c : Value} (h : Tr enc P w base t [c]) (ht : P.underlying t = some .string) : ∃ s : ByteArray, c = .string s ∧ s.size ≤ maxLen := by
  obtain ⟨_, x, hn⟩ := h
  obtain ⟨s, hc, _, hs⟩ := DataW.trod_string ht hn
  exact ⟨s, by simpa using hc, hs⟩
/-- a slice: of each element the cells read -/
theorem Tr.slice {t e : TypeId} {c : Value} (h : Tr enc P w base t [c]) (ht : P.underlying t = some (.slice e)) (s : Nat) (hs : P.cellsOf e = s) :
    ∃ (A : Option Addr) (n cap : Nat), c = .slice A n cap ∧ n ≤ cap ∧ cap ≤ maxLen ∧ (0 < n → ∃ a : Addr, A = some a ∧ ∀ i, i < n → ∃ cs : List Value, cs.length = s ∧ (∀ j, j < s → w.cell? (a.add (i * s + j)) = cs[j]?) ∧ Tr enc P w base e cs) := by
  obtain ⟨_, x, hn⟩ := h
  rcases DataW.trod_slice ht hn with ⟨hc, _⟩ | ⟨a, len, cap, elems, rest, m, _, hc, _, hb, hl, hm, hlen, hg, _, _⟩
  · exact ⟨none, 0, 0, by simpa using hc, Nat.le_refl _, Nat.zero_le _, fun h => absurd h (by omega)⟩
  · refine ⟨some a, len, cap, by simpa using hc, hl, hm, fun _ => ⟨a, rfl, fun i hi => ?_⟩⟩
    have h1 := hg i hi
    rw [List.getElem?_eq_getElem (by omega), Option.bind_eq_some_iff] at h1
    obtain ⟨cs, h2, h3⟩ := h1
    rw [hs] at h2
    obtain ⟨_, h4, h5⟩ := World.cells?_some h2
    refine ⟨cs, h4, fun j hj => ?_, ⟨m, _, h3⟩⟩
    have := h5 j hj
    rwa [show (a.add (i * s)).add j = a.add (i * s + j) by
      unfold Addr.add
      by_cases h1 : i * s = 0 <;> by_cases h2 : j = 0 <;> simp [h1, h2, Nat.add_assoc]] at this
/-- a slice of bytes -/
theorem Tr.bytes {t e : TypeId} {c : Value} (h : Tr enc P w base t [c]) (ht : P.underlying t = some (.slice e)) (he : P.underlying e = some (.int .u8)) (hs : P.cellsOf e = 1) :
    ∃ (A : Option Addr) (cap : Nat) (l : List UInt8), c = .slice A l.length cap ∧ Rd w A l ∧ l.length ≤ cap ∧ cap ≤ maxLen := by
  obtain ⟨A, n, cap, rfl, hl, hm, hg⟩ := h.slice ht 1 hs
  by_cases h0 : n = 0
  · subst h0
    exact ⟨A, cap, [], rfl, Rd.nil _ _, hl, hm⟩
  · obtain ⟨a, rfl, hg2⟩ := hg (by omega)
    have hx : ∀ i, ∃ x : UInt8, i < n → w.cell? (a.add i) = some (.int .u8 (x.toNat : Int)) := by
      intro i
      by_cases hi : i < n
      · obtain ⟨cs, hcl, hcc, htr⟩ := hg2 i hi
        match cs, hcl with
        | [c0], _ =>
          obtain ⟨k, rfl, hk⟩ := htr.uint rfl he
          refine ⟨UInt8.ofNat k, fun _ => ?_⟩
          have := hcc 0 (by omega)
          rw [Nat.mul_one, Nat.add_zero] at this
          rw [this, UInt8.toNat_ofNat']
          simp [IntKind.bits] at hk
          simp only [List.getElem?_cons_zero]
          congr 2
          omega
      · exact ⟨0, fun h => absurd h hi⟩
    obtain ⟨f, hx'⟩ : ∃ f : Nat → UInt8, ∀ i, i < n → w.cell? (a.add i) = some (.int .u8 ((f i).toNat : Int)) := ⟨fun i => Classical.choose (hx i), fun i => Classical.choose_spec (hx i)⟩
    refine ⟨some a, cap, (List.range n).map f, by simp, ?_, by simpa using hl, hm⟩
    intro _
    obtain ⟨b, o, spot⟩ := a
    have h1 := hx' 0 (by omega)
    have hspot : spot = none := by simpa [Addr.add] using World.cell?_spot h1
    subst hspot
    refine ⟨b, o, rfl, fun i hi => ?_⟩
    have := hx' i (by simpa using hi)
    rw [Addr.add_lit] at this
    rw [this]
    simp
end
end Go.Proofs.YtiieakndjheknaaDoor

/-
  PLAIN: the first of some bools that is true.
-/
namespace Go.Proofs.YtiieakndjheknaaDoor
set_option maxRecDepth 100000
theorem cho2 (a b : Bool) : (a = true) ∨ (a = false ∧ b = true) ∨ (a = false ∧ b = false) := by
  cases a
  rotate_left
  · exact .inl rfl
  · cases b
    · exact .inr (.inr ⟨rfl, rfl⟩)
    · exact .inr (.inl ⟨rfl, rfl⟩)
theorem cho3 (a b c : Bool) : (a = true) ∨ (a = false ∧ b = true) ∨ (a = false ∧ b = false ∧ c = true) ∨ (a = false ∧ b = false ∧ c = false) := by
  cases a
  rotate_left
  · exact .inl rfl
  · rcases cho2 b c with h | h | h
    · exact .inr (.inl ⟨rfl, h⟩)
    · exact .inr (.inr (.inl ⟨rfl, h⟩))
    · exact .inr (.inr (.inr ⟨rfl, h⟩))
theorem cho4 (a b c d : Bool) : (a = true) ∨ (a = false ∧ b = true) ∨ (a = false ∧ b = false ∧ c = true) ∨ (a = false ∧ b = false ∧ c = false ∧ d = true) ∨ (a = false ∧ b = false ∧ c = false ∧ d = false) := by
  cases a
  rotate_left
  · exact .inl rfl
  · rcases cho3 b c d with h | h | h | h
    · exact .inr (.inl ⟨rfl, h⟩)
    · exact .inr (.inr (.inl ⟨rfl, h⟩))
    · exact .inr (.inr (.inr (.inl ⟨rfl, h⟩)))
    · exact .inr (.inr (.inr (.inr ⟨rfl, h⟩)))
theorem cho5 (a b c d e : Bool) : (a = true) ∨ (a = false ∧ b = true) ∨ (a = false ∧ b = false ∧ c = true) ∨ (a = false ∧ b = false ∧ c = false ∧ d = true) ∨ (a = false ∧ b = false ∧ c = false ∧ d = false ∧ e = true) ∨ (a = false ∧ b = false ∧ c = false ∧ d = false ∧ e = false) := by
  cases a
  rotate_left
  · exact .inl rfl
  · rcases cho4 b c d e with h | h | h | h | h
    · exact .inr (.inl ⟨rfl, h⟩)
    · exact .inr (.inr (.inl ⟨rfl, h⟩))
    · exact .inr (.inr (.inr (.inl ⟨rfl, h⟩)))
    · exact .inr (.inr (.inr (.inr (.inl ⟨rfl, h⟩))))
    · exact .inr (.inr (.inr (.inr (.inr ⟨rfl, h⟩))))
theorem cho6 (a b c d e f : Bool) : (a = true) ∨ (a = false ∧ b = true) ∨ (a = false ∧ b = false ∧ c = true) ∨ (a = false ∧ b = false ∧ c = false ∧ d = true) ∨ (a = false ∧ b = false ∧ c = false ∧ d = false ∧ e = true) ∨ (a = false ∧ b = false ∧ c = false ∧ d = false ∧ e = false ∧ f = true) ∨ (a = false ∧ b = false ∧ c = false ∧ d = false ∧ e = false ∧ f = false) := by
  cases a
  rotate_left
  · exact .inl rfl
  · rcases cho5 b c d e f with h | h | h | h | h | h
    · exact .inr (.inl ⟨rfl, h⟩)
    · exact .inr (.inr (.inl ⟨rfl, h⟩))
    · exact .inr (.inr (.inr (.inl ⟨rfl, h⟩)))
    · exact .inr (.inr (.inr (.inr (.inl ⟨rfl, h⟩))))
    · exact .inr (.inr (.inr (.inr (.inr (.inl ⟨rfl, h⟩)))))
    · exact .inr (.inr (.inr (.inr (.inr (.inr ⟨rfl, h⟩)))))
theorem cho7 (a b c d e f g : Bool) : (a = true) ∨ (a = false ∧ b = true) ∨ (a = false ∧ b = false ∧ c = true) ∨ (a = false ∧ b = false ∧ c = false ∧ d = true) ∨ (a = false ∧ b = false ∧ c = false ∧ d = false ∧ e = true) ∨ (a = false ∧ b = false ∧ c = false ∧ d = false ∧ e = false ∧ f = true) ∨ (a = false ∧ b = false ∧ c = false ∧ d = false ∧ e = false ∧ f = false ∧ g = true) ∨ (a = false ∧ b = false ∧ c = false ∧ d = false ∧ e = false ∧ f = false ∧ g = false) := by
  cases a
  rotate_left
  · exact .inl rfl
  · rcases cho6 b c d e f g with h | h | h | h | h | h | h
    · exact .inr (.inl ⟨rfl, h⟩)
    · exact .inr (.inr (.inl ⟨rfl, h⟩))
    · exact .inr (.inr (.inr (.inl ⟨rfl, h⟩)))
    · exact .inr (.inr (.inr (.inr (.inl ⟨rfl, h⟩))))
    · exact .inr (.inr (.inr (.inr (.inr (.inl ⟨rfl, h⟩)))))
    · exact .inr (.inr (.inr (.inr (.inr (.inr (.inl ⟨rfl, h⟩))))))
    · exact .inr (.inr (.inr (.inr (.inr (.inr (.inr ⟨rfl, h⟩))))))
theorem cho8 (a b c d e f g h : Bool) : (a = true) ∨ (a = false ∧ b = true) ∨ (a = false ∧ b = false ∧ c = true) ∨ (a = false ∧ b = false ∧ c = false ∧ d = true) ∨ (a = false ∧ b = false ∧ c = false ∧ d = false ∧ e = true) ∨ (a = false ∧ b = false ∧ c = false ∧ d = false ∧ e = false ∧ f = true) ∨ (a = false ∧ b = false ∧ c = false ∧ d = false ∧ e = false ∧ f = false ∧ g = true) ∨ (a = false ∧ b = false ∧ c = false ∧ d = false ∧ e = false ∧ f = false ∧ g = false ∧ h = true) ∨ (a = false ∧ b = false ∧ c = false ∧ d = false ∧ e = false ∧ f = false ∧ g = false ∧ h = false) := by
  cases a
  rotate_left
  · exact .inl rfl
  · rcases cho7 b c d e f g h with h | h | h | h | h | h | h | h
    · exact .inr (.inl ⟨rfl, h⟩)
    · exact .inr (.inr (.inl ⟨rfl, h⟩))
    · exact .inr (.inr (.inr (.inl ⟨rfl, h⟩)))
    · exact .inr (.inr (.inr (.inr (.inl ⟨rfl, h⟩))))
    · exact .inr (.inr (.inr (.inr (.inr (.inl ⟨rfl, h⟩)))))
    · exact .inr (.inr (.inr (.inr (.inr (.inr (.inl ⟨rfl, h⟩))))))
    · exact .inr (.inr (.inr (.inr (.inr (.inr (.inr (.inl ⟨rfl, h⟩)))))))
    · exact .inr (.inr (.inr (.inr (.inr (.inr (.inr (.inr ⟨rfl, h⟩)))))))
theorem cho9 (a b c d e f g h i : Bool) : (a = true) ∨ (a = false ∧ b = true) ∨ (a = false ∧ b = false ∧ c = true) ∨ (a = false ∧ b = false ∧ c = false ∧ d = true) ∨ (a = false ∧ b = false ∧ c = false ∧ d = false ∧ e = true) ∨ (a = false ∧ b = false ∧ c = false ∧ d = false ∧ e = false ∧ f = true) ∨ (a = false ∧ b = false ∧ c = false ∧ d = false ∧ e = false ∧ f = false ∧ g = true) ∨ (a = false ∧ b = false ∧ c = false ∧ d = false ∧ e = false ∧ f = false ∧ g = false ∧ h = true) ∨ (a = false ∧ b = false ∧ c = false ∧ d = false ∧ e = false ∧ f = false ∧ g = false ∧ h = false ∧ i = true) ∨ (a = false ∧ b = false ∧ c = false ∧ d = false ∧ e = false ∧ f = false ∧ g = false ∧ h = false ∧ i = false) := by
  cases a
  rotate_left
  · exact .inl rfl
  · rcases cho8 b c d e f g h i with h | h | h | h | h | h | h | h | h
    · exact .inr (.inl ⟨rfl, h⟩)
    · exact .inr (.inr (.inl ⟨rfl, h⟩))
    · exact .inr (.inr (.inr (.inl ⟨rfl, h⟩)))
    · exact .inr (.inr (.inr (.inr (.inl ⟨rfl, h⟩))))
    · exact .inr (.inr (.inr (.inr (.inr (.inl ⟨rfl, h⟩)))))
    · exact .inr (.inr (.inr (.inr (.inr (.inr (.inl ⟨rfl, h⟩))))))
    · exact .inr (.inr (.inr (.inr (.inr (.inr (.inr (.inl ⟨rfl, h⟩)))))))
    · exact .inr (.inr (.inr (.inr (.inr (.inr (.inr (.inr (.inl ⟨rfl, h⟩))))))))
    · exact .inr (.inr (.inr (.inr (.inr (.inr (.inr (.inr (.inr ⟨rfl, h⟩))))))))
theorem cho10 (a b c d e f g h i j : Bool) : (a = true) ∨ (a = false ∧ b = true) ∨ (a = false ∧ b = false ∧ c = true) ∨ (a = false ∧ b = false ∧ c = false ∧ d = true) ∨ (a = false ∧ b = false ∧ c = false ∧ d = false ∧ e = true) ∨ (a = false ∧ b = false ∧ c = false ∧ d = false ∧ e = false ∧ f = true) ∨ (a = false ∧ b = false ∧ c = false ∧ d = false ∧ e = false ∧ f = false ∧ g = true) ∨ (a = false ∧ b = false ∧ c = false ∧ d = false ∧ e = false ∧ f = false ∧ g = false ∧ h = true) ∨ (a = false ∧ b = false ∧ c = false ∧ d = false ∧ e = false ∧ f = false ∧ g = false ∧ h = false ∧ i = true) ∨ (a = false ∧ b = false ∧ c = false ∧ d = false ∧ e = false ∧ f = false ∧ g = false ∧ h = false ∧ i = false ∧ j = true) ∨ (a = false ∧ b = false ∧ c = false ∧ d = false ∧ e = false ∧ f = false ∧ g = false ∧ h = false ∧ i = false ∧ j = false) := by
  cases a
  rotate_left
  · exact .inl rfl
  · rcases cho9 b c d e f g h i j with h | h | h | h | h | h | h | h | h | h
    · exact .inr (.inl ⟨rfl, h⟩)
    · exact .inr (.inr (.inl ⟨rfl, h⟩))
    · exact .inr (.inr (.inr (.inl ⟨rfl, h⟩)))
    · exact .inr (.inr (.inr (.inr (.inl ⟨rfl, h⟩))))
    · exact .inr (.inr (.inr (.inr (.inr (.inl ⟨rfl, h⟩)))))
    · exact .inr (.inr (.inr (.inr (.inr (.inr (.inl ⟨rfl, h⟩))))))
    · exact .inr (.inr (.inr (.inr (.inr (.inr (.inr (.inl ⟨rfl, h⟩)))))))
    · exact .inr (.inr (.inr (.inr (.inr (.inr (.inr (.inr (.inl ⟨rfl, h⟩))))))))
    · exact .inr (.inr (.inr (.inr (.inr (.inr (.inr (.inr (.inr (.inl ⟨rfl, h⟩)))))))))
    · exact .inr (.inr (.inr (.inr (.inr (.inr (.inr (.inr (.inr (.inr ⟨rfl, h⟩)))))))))
theorem cho11 (a b c d e f g h i j k : Bool) : (a = true) ∨ (a = false ∧ b = true) ∨ (a = false ∧ b = false ∧ c = true) ∨ (a = false ∧ b = false ∧ c = false ∧ d = true) ∨ (a = false ∧ b = false ∧ c = false ∧ d = false ∧ e = true) ∨ (a = false ∧ b = false ∧ c = false ∧ d = false ∧ e = false ∧ f = true) ∨ (a = false ∧ b = false ∧ c = false ∧ d = false ∧ e = false ∧ f = false ∧ g = true) ∨ (a = false ∧ b = false ∧ c = false ∧ d = false ∧ e = false ∧ f = false ∧ g = false ∧ h = true) ∨ (a = false ∧ b = false ∧ c = false ∧ d = false ∧ e = false ∧ f = false ∧ g = false ∧ h = false ∧ i = true) ∨ (a = false ∧ b = false ∧ c = false ∧ d = false ∧ e = false ∧ f = false ∧ g = false ∧ h = false ∧ i = false ∧ j = true) ∨ (a = false ∧ b = false ∧ c = false ∧ d = false ∧ e = false ∧ f = false ∧ g = false ∧ h = false ∧ i = false ∧ j = false ∧ k = true) ∨ (a = false ∧ b = false ∧ c = false ∧ d = false ∧ e = false ∧ f = false ∧ g = false ∧ h = false ∧ i = false ∧ j = false ∧ k = false) := by
  cases a
  rotate_left
  · exact .inl rfl
  · rcases cho10 b c d e f g h i j k with h | h | h | h | h | h | h | h | h | h | h
    · exact .inr (.inl ⟨rfl, h⟩)
    · exact .inr (.inr (.inl ⟨rfl, h⟩))
    · exact .inr (.inr (.inr (.inl ⟨rfl, h⟩)))
    · exact .inr (.inr (.inr (.inr (.inl ⟨rfl, h⟩))))
    · exact .inr (.inr (.inr (.inr (.inr (.inl ⟨rfl, h⟩)))))
    · exact .inr (.inr (.inr (.inr (.inr (.inr (.inl ⟨rfl, h⟩))))))
    · exact .inr (.inr (.inr (.inr (.inr (.inr (.inr (.inl ⟨rfl, h⟩)))))))
    · exact .inr (.inr (.inr (.inr (.inr (.inr (.inr (.inr (.inl ⟨rfl, h⟩))))))))
    · exact .inr (.inr (.inr (.inr (.inr (.inr (.inr (.inr (.inr (.inl ⟨rfl, h⟩)))))))))
    · exact .inr (.inr (.inr (.inr (.inr (.inr (.inr (.inr (.inr (.inr (.inl ⟨rfl, h⟩))))))))))
    · exact .inr (.inr (.inr (.inr (.inr (.inr (.inr (.inr (.inr (.inr (.inr ⟨rfl, h⟩))))))))))
theorem cho12 (a b c d e f g h i j k l : Bool) : (a = true) ∨ (a = false ∧ b = true) ∨ (a = false ∧ b = false ∧ c = true) ∨ (a = false ∧ b = false ∧ c = false ∧ d = true) ∨ (a = false ∧ b = false ∧ c = false ∧ d = false ∧ e = true) ∨ (a = false ∧ b = false ∧ c = false ∧ d = false ∧ e = false ∧ f = true) ∨ (a = false ∧ b = false ∧ c = false ∧ d = false ∧ e = false ∧ f = false ∧ g = true) ∨ (a = false ∧ b = false ∧ c = false ∧ d = false ∧ e = false ∧ f = false ∧ g = false ∧ h = true) ∨ (a = false ∧ b = false ∧ c = false ∧ d = false ∧ e = false ∧ f = false ∧ g = false ∧ h = false ∧ i = true) ∨ (a = false ∧ b = false ∧ c = false ∧ d = false ∧ e = false ∧ f = false ∧ g = false ∧ h = false ∧ i = false ∧ j = true) ∨ (a = false ∧ b = false ∧ c = false ∧ d = false ∧ e = false ∧ f = false ∧ g = false ∧ h = false ∧ i = false ∧ j = false ∧ k = true) ∨ (a = false ∧ b = false ∧ c = false ∧ d = false ∧ e = false ∧ f = false ∧ g = false ∧ h = false ∧ i = false ∧ j = false ∧ k = false ∧ l = true) ∨ (a = false ∧ b = false ∧ c = false ∧ d = false ∧ e = false ∧ f = false ∧ g = false ∧ h = false ∧ i = false ∧ j = false ∧ k = false ∧ l = false) := by
  cases a
  rotate_left
  · exact .inl rfl
  · rcases cho11 b c d e f g h i j k l with h | h | h | h | h | h | h | h | h | h | h | h
    · exact .inr (.inl ⟨rfl, h⟩)
    · exact .inr (.inr (.inl ⟨rfl, h⟩))
    · exact .inr (.inr (.inr (.inl ⟨rfl, h⟩)))
    · exact .inr (.inr (.inr (.inr (.inl ⟨rfl, h⟩))))
    · exact .inr (.inr (.inr (.inr (.inr (.inl ⟨rfl, h⟩)))))
    · exact .inr (.inr (.inr (.inr (.inr (.inr (.inl ⟨rfl, h⟩))))))
    · exact .inr (.inr (.inr (.inr (.inr (.inr (.inr (.inl ⟨rfl, h⟩)))))))
    · exact .inr (.inr (.inr (.inr (.inr (.inr (.inr (.inr (.inl ⟨rfl, h⟩))))))))
    · exact .inr (.inr (.inr (.inr (.inr (.inr (.inr (.inr (.inr (.inl ⟨rfl, h⟩)))))))))
    · exact .inr (.inr (.inr (.inr (.inr (.inr (.inr (.inr (.inr (.inr (.inl ⟨rfl, h⟩))))))))))
    · exact .inr (.inr (.inr (.inr (.inr (.inr (.inr (.inr (.inr (.inr (.inr (.inl ⟨rfl, h⟩)))))))))))
    · exact .inr (.inr (.inr (.inr (.inr (.inr (.inr (.inr (.inr (.inr (.inr (.inr ⟨rfl, h⟩)))))))))))
theorem cho13 (a b c d e f g h i j k l m : Bool) : (a = true) ∨ (a = false ∧ b = true) ∨ (a = false ∧ b = false ∧ c = true) ∨ (a = false ∧ b = false ∧ c = false ∧ d = true) ∨ (a = false ∧ b = false ∧ c = false ∧ d = false ∧ e = true) ∨ (a = false ∧ b = false ∧ c = false ∧ d = false ∧ e = false ∧ f = true) ∨ (a = false ∧ b = false ∧ c = false ∧ d = false ∧ e = false ∧ f = false ∧ g = true) ∨ (a = false ∧ b = false ∧ c = false ∧ d = false ∧ e = false ∧ f = false ∧ g = false ∧ h = true) ∨ (a = false ∧ b = false ∧ c = false ∧ d = false ∧ e = false ∧ f = false ∧ g = false ∧ h = false ∧ i = true) ∨ (a = false ∧ b = false ∧ c = false ∧ d = false ∧ e = false ∧ f = false ∧ g = false ∧ h = false ∧ i = false ∧ j = true) ∨ (a = false ∧ b = false ∧ c = false ∧ d = false ∧ e = false ∧ f = false ∧ g = false ∧ h = false ∧ i = false ∧ j = false ∧ k = true) ∨ (a = false ∧ b = false ∧ c = false ∧ d = false ∧ e = false ∧ f = false ∧ g = false ∧ h = false ∧ i = false ∧ j = false ∧ k = false ∧ l = true) ∨ (a = false ∧ b = false ∧ c = false ∧ d = false ∧ e = false ∧ f = false ∧ g = false ∧ h = false ∧ i = false ∧ j = false ∧ k = false ∧ l = false ∧ m = true) ∨ (a = false ∧ b = false ∧ c = false ∧ d = false ∧ e = false ∧ f = false ∧ g = false ∧ h = false ∧ i = false ∧ j = false ∧ k = false ∧ l = false ∧ m = false) := by
  cases a
  rotate_left
  · exact .inl rfl
  · rcases cho12 b c d e f g h i j k l m with h | h | h | h | h | h | h | h | h | h | h | h | h
    · exact .inr (.inl ⟨rfl, h⟩)
    · exact .inr (.inr (.inl ⟨rfl, h⟩))
    · exact .inr (.inr (.inr (.inl ⟨rfl, h⟩)))
    · exact .inr (.inr (.inr (.inr (.inl ⟨rfl, h⟩))))
    · exact .inr (.inr (.inr (.inr (.inr (.inl ⟨rfl, h⟩)))))
    · exact .inr (.inr (.inr (.inr (.inr (.inr (.inl ⟨rfl, h⟩))))))
    · exact .inr (.inr (.inr (.inr (.inr (.inr (.inr (.inl ⟨rfl, h⟩)))))))
    · exact .inr (.inr (.inr (.inr (.inr (.inr (.inr (.inr (.inl ⟨rfl, h⟩))))))))
    · exact .inr (.inr (.inr (.inr (.inr (.inr (.inr (.inr (.inr (.inl ⟨rfl, h⟩)))))))))
    · exact .inr (.inr (.inr (.inr (.inr (.inr (.inr (.inr (.inr (.inr (.inl ⟨rfl, h⟩))))))))))
    · exact .inr (.inr (.inr (.inr (.inr (.inr (.inr (.inr (.inr (.inr (.inr (.inl ⟨rfl, h⟩)))))))))))
    · exact .inr (.inr (.inr (.inr (.inr (.inr (.inr (.inr (.inr (.inr (.inr (.inr (.inl ⟨rfl, h⟩))))))))))))
    · exact .inr (.inr (.inr (.inr (.inr (.inr (.inr (.inr (.inr (.inr (.inr (.inr (.inr ⟨rfl, h⟩))))))))))))
end Go.Proofs.YtiieakndjheknaaDoor
