import Derived.Test.YtiieakndjheknaaDoorRows
import Derived.WalkKit
import Derived.WalkSpells
import Derived.WalkLawsBesides
import Derived.Maps.AppendAt
import Derived.Deep.AppendLies
import Derived.Deep.Draws
import Derived.Lib.Hide
import Derived.ProofKit
import Derived.OpenShut
import Derived.ShutString
import Derived.ChangeOld
import Derived.Lib.AppendStr
import Derived.Laws.BitsAllLaws
import Derived.Deep.QuietTactic
import Derived.BigQuiet
import Derived.Deep.DeepMust
import Derived.Lib.SlBytesConst
/-
  MEMORY WORDS: a slice of bytes that reads as a list; a slice of bytes that the call itself made; append and make on it. No program in sight but for the type numbers.
-/
namespace Go.Proofs.YtiieakndjheknaaDoor
set_option maxRecDepth 100000
open Go.RowKit

/-- the value of a byte's cell -/
def bvs (l : List UInt8) : List Value := l.map fun c => Value.int .u8 (c.toNat : Int)
theorem bvs_length (l : List UInt8) : (bvs l).length = l.length := by simp [bvs]
theorem bvs_append (l m : List UInt8) : bvs (l ++ m) = bvs l ++ bvs m := by simp [bvs]
theorem bvs_one (l : List UInt8) : ∀ u ∈ bvs l, u.oneCell' = true := by
  intro u hu
  obtain ⟨c, _, rfl⟩ := List.mem_map.1 hu
  rfl
theorem bvs_get (l : List UInt8) (i : Nat) (h : i < l.length) : (bvs l)[i]? = some (.int .u8 (l[i].toNat : Int)) := by simp [bvs, h]

/-- a slice at A with as many elements as l has reads as l -/
def Rd (w : World) (A : Option Addr) (l : List UInt8) : Prop :=
  l ≠ [] → ∃ b o, A = some ⟨b, o, none⟩ ∧ ∀ (i : Nat) (h : i < l.length), w.cell? ⟨b, o + i, none⟩ = some (.int .u8 (l[i].toNat : Int))

theorem Rd.nil (w : World) (A : Option Addr) : Rd w A [] := fun h => absurd rfl h
theorem Rd.at_ {w : World} {A : Option Addr} {l : List UInt8} (h : Rd w A l) {k : Nat} (hk : k < l.length) :
    ∃ b o, A = some ⟨b, o, none⟩ ∧ ∀ (i : Nat) (h : i < l.length), w.cell? ⟨b, o + i, none⟩ = some (.int .u8 (l[i].toNat : Int)) :=
  h (fun e => by subst e; simp at hk)
theorem Rd.keep {w w' : World} {A : Option Addr} {l : List UInt8} (h : Rd w A l) (hk : ∀ b o, b < w.heap.size → w'.cell? ⟨b, o, none⟩ = w.cell? ⟨b, o, none⟩) : Rd w' A l := by
  intro hn
  obtain ⟨b, o, e, hc⟩ := h hn
  refine ⟨b, o, e, fun i hi => ?_⟩
  rw [hk b _ (World.block_lt_of_cell? w _ (hc i hi))]
  exact hc i hi
theorem Rd.below {w w' : World} {A : Option Addr} {l : List UInt8} (h : Rd w A l) (hb : Below w.heap.size w w') : Rd w' A l :=
  h.keep fun b o hlt => hb.cell (p := ⟨b, o, none⟩) hlt
theorem Rd.drew {w : World} {A : Option Addr} {l : List UInt8} (h : Rd w A l) : Rd w.drew A l := h
theorem Rd.alloc {w : World} {A : Option Addr} {l : List UInt8} (h : Rd w A l) (o : Obj) : Rd (w.alloc o) A l :=
  h.keep fun b k hlt => World.cell?_alloc_lt w o ⟨b, k, none⟩ hlt
/-- a part of it -/
theorem Rd.cut {w : World} {A : Option Addr} {l : List UInt8} (h : Rd w A l) (b o k n : Nat) (hA : A = some ⟨b, o, none⟩) (hk : k + n ≤ l.length) :
    Rd w (some ⟨b, o + k, none⟩) ((l.drop k).take n) := by
  intro hn
  refine ⟨b, o + k, rfl, fun i hi => ?_⟩
  simp only [List.length_take, List.length_drop] at hi
  obtain ⟨b', o', e, hc⟩ := h.at_ (k := k + i) (by omega)
  rw [hA] at e
  injection e with e
  injection e with e1 e2
  subst e1 e2
  have := hc (k + i) (by omega)
  rw [Nat.add_assoc, this]
  simp [List.getElem_take, List.getElem_drop]

theorem Rd.take {w : World} {A : Option Addr} {l : List UInt8} (h : Rd w A l) (n : Nat) : Rd w A (l.take n) := by
  intro hn
  obtain ⟨b, o, e, hc⟩ := h (fun e => by subst e; simp at hn)
  refine ⟨b, o, e, fun i hi => ?_⟩
  rw [List.getElem_take]
  exact hc i (by simp at hi; omega)
theorem Rd.slice {w : World} {A : Option Addr} {l : List UInt8} (h : Rd w A l) (k n c : Nat) (hk : k + n ≤ l.length) (hc : l.length ≤ c) :
    Rd w (if c = k then A else A.map (·.add k)) ((l.drop k).take n) := by
  by_cases hn : n = 0
  · subst hn
    simpa using Rd.nil w _
  · rw [if_neg (by omega)]
    obtain ⟨b, o, rfl, _⟩ := h.at_ (k := k) (by omega)
    have := h.cut b o k n rfl hk
    simpa [Addr.add_lit] using this
theorem Rd.slice_eq {w : World} {A : Option Addr} {l : List UInt8} (h : Rd w A l) (k n c : Nat) (hk : k + n ≤ l.length) (hc : l.length ≤ c) (e : c = k) : Rd w A ((l.drop k).take n) := by
  have := h.slice k n c hk hc
  rwa [if_pos e] at this
theorem Rd.slice_ne {w : World} {A : Option Addr} {l : List UInt8} (h : Rd w A l) (k n c : Nat) (hk : k + n ≤ l.length) (hc : l.length ≤ c) (e : ¬ c = k) : Rd w (A.map fun x => x.add k) ((l.drop k).take n) := by
  have := h.slice k n c hk hc
  rwa [if_neg e] at this

/-- a slice of bytes that the call itself made, in blocks from 'base' on -/
def Own (w : World) (base : Nat) (A : Option Addr) (c : Nat) (l : List UInt8) : Prop :=
  w.ownsRow base 5 1 (.slice A l.length c) l.length (bvs l)

theorem Own.none_ (w : World) (base : Nat) : Own w base none 0 [] := World.ownsRow_nil w base _ _
theorem Own.rd {w : World} {base : Nat} {A : Option Addr} {c : Nat} {l : List UInt8} (h : Own w base A c l) : Rd w A l := by
  intro hn
  have hpos : 0 < l.length := List.length_pos_iff.2 hn
  obtain ⟨g, cap, hv, _, _⟩ := World.ownsRow.form h hpos
  injection hv with hA
  subst hA
  refine ⟨g, 0, rfl, fun i hi => ?_⟩
  have := World.ownsRow.cells h (g := g) rfl i _ (bvs_get l i hi)
  rwa [Addr.add_lit] at this
theorem Own.form {w : World} {base : Nat} {A : Option Addr} {c : Nat} {l : List UInt8} (h : Own w base A c l) :
    (A = none ∧ c = 0 ∧ l = []) ∨ ∃ g, A = some ⟨g, 0, none⟩ ∧ base ≤ g ∧ g < w.heap.size ∧ l.length ≤ c ∧ c ≤ maxLen := by
  rcases h.2 with ⟨hv, hn⟩ | ⟨g, cap, cur, hv, hb, hg, hnc, hcm, _, _⟩
  · injection hv with h1 h2 h3
    exact .inl ⟨h1, h3, List.eq_nil_of_length_eq_zero h2⟩
  · injection hv with h1 h2 h3
    subst h1 h3
    exact .inr ⟨g, rfl, hb, (Array.getElem?_eq_some_iff.1 hg).1, hnc, hcm⟩
theorem Own.caps {w : World} {base : Nat} {A : Option Addr} {c : Nat} {l : List UInt8} (h : Own w base A c l) : l.length ≤ c ∧ c ≤ maxLen := by
  rcases h.form with ⟨_, rfl, rfl⟩ | ⟨_, _, _, _, h1, h2⟩
  · exact ⟨Nat.le_refl _, Nat.zero_le _⟩
  · exact ⟨h1, h2⟩
theorem Own.mono {w : World} {base base' : Nat} {A : Option Addr} {c : Nat} {l : List UInt8} (h : Own w base A c l) (hb : base' ≤ base) : Own w base' A c l := by
  refine ⟨h.1, ?_⟩
  rcases h.2 with hn | ⟨g, cap, cur, hv, hbb, r⟩
  · exact .inl hn
  · exact .inr ⟨g, cap, cur, hv, by omega, r⟩
theorem Own.block {w w' : World} {base : Nat} {A : Option Addr} {c : Nat} {l : List UInt8} (h : Own w base A c l) (hk : ∀ k, k < w.heap.size → w'.heap[k]? = w.heap[k]?) : Own w' base A c l := by
  refine ⟨h.1, ?_⟩
  rcases h.2 with hn | ⟨g, cap, cur, hv, hbb, hg, r⟩
  · exact .inl hn
  · exact .inr ⟨g, cap, cur, hv, hbb, (hk g (Array.getElem?_eq_some_iff.1 hg).1).trans hg, r⟩
theorem Own.below {w w' : World} {base : Nat} {A : Option Addr} {c : Nat} {l : List UInt8} (h : Own w base A c l) (hb : Below w.heap.size w w') : Own w' base A c l := h.block hb.block
theorem Own.drew {w : World} {base : Nat} {A : Option Addr} {c : Nat} {l : List UInt8} (h : Own w base A c l) : Own w.drew base A c l := h
theorem Own.alloc {w : World} {base : Nat} {A : Option Addr} {c : Nat} {l : List UInt8} (h : Own w base A c l) (o : Obj) : Own (w.alloc o) base A c l := World.ownsRow.alloc h o

theorem Own.cell {w : World} {base g : Nat} {c : Nat} {l : List UInt8} (h : Own w base (some ⟨g, 0, none⟩) c l) (i : Nat) (hi : i < l.length) :
    w.cell? ⟨g, i, none⟩ = some (.int .u8 (l[i].toNat : Int)) := by
  rw [World.ownsRow.cellAt h i (by simpa using hi)]
  exact bvs_get l i hi
theorem Own.frozen {w : World} {base g : Nat} {c : Nat} {l : List UInt8} (h : Own w base (some ⟨g, 0, none⟩) c l) (i : Nat) : w.frozen? ⟨g, i, none⟩ = false :=
  World.ownsRow.frozenAt h i
theorem Own.set {w : World} {base g : Nat} {c : Nat} {l : List UInt8} (h : Own w base (some ⟨g, 0, none⟩) c l) (i : Nat) (x : UInt8) :
    Own (w.setCell ⟨g, i, none⟩ (.int .u8 (x.toNat : Int))) base (some ⟨g, 0, none⟩) c (l.set i x) := by
  have := (World.ownsRow.stored h i (.int .u8 (x.toNat : Int))).1
  unfold Own
  rw [List.length_set]
  have e : bvs (l.set i x) = (bvs l).set i (.int .u8 (x.toNat : Int)) := by simp [bvs, List.map_set]
  rw [e]
  exact this
theorem byte_succ (x : UInt8) : ((x.toNat : Int) + 1) % 256 = ((x + 1).toNat : Int) := by
  rw [UInt8.toNat_add]
  simp
theorem Own.kept {w w' : World} {base : Nat} {A : Option Addr} {c : Nat} {l : List UInt8} {row : Option Nat} (h : Own w base A c l) (hg : w.grownBy w' row) (hne : ∀ a, A = some a → row ≠ some a.block) : Own w' base A c l := by
  refine World.ownsRow.kept h hg ?_
  cases A with
  | none => exact .inl rfl
  | some a => exact .inr (fun e => hne a rfl e.symm)

/-- only a block that lies below its own base was written -/
theorem Own.aside {w w' : World} {base g : Nat} {A : Option Addr} {c : Nat} {l : List UInt8} (h : Own w base A c l) (hg : w.grownBy w' (some g)) (hlt : g < base) : Own w' base A c l := by
  refine h.kept hg fun a ha e => ?_
  injection e with e
  rcases h.form with ⟨h1, _⟩ | ⟨g', h1, h2, _⟩
  · rw [h1] at ha; cases ha
  · rw [h1] at ha; cases ha; simp at e; omega

theorem run_append_of_nil {P : Program} (w : World) (base : Nat) (t ty e : TypeId) (i : TypeInfo) (size : Nat) (ht : P.underlying t = some (.slice e)) (hi : P.info? e = some i)
    (v : Value) (n : Nat) (xs : List Value) (hown : w.ownsRow base e size v n xs) (c : Nat) : (Builtin.append_ #[t, t] ty #[v, .slice none 0 c]).run P w = .ok v w := by
  rcases hown.2 with ⟨rfl, rfl⟩ | ⟨g, cap, cur, rfl, _, _, hnc, _⟩
  · simp [Builtin.append_, run_underlying ht, sizeOf, typeInfo, hi, Builtin.lenOf, Builtin.firstCells]
  · simp [Builtin.append_, run_underlying ht, sizeOf, typeInfo, hi, Builtin.lenOf, Builtin.firstCells, hnc, storeCells]

theorem u8_info : (Tryd.prog.info? 5).map (fun i => (i.zero, i.size, i.bytes)) = some (some (.int .u8 0), 1, 1) := by kernel_rfl
theorem u8_slice : Tryd.prog.underlying 32 = some (.slice 5) := Tryd.underlying32

theorem le_maxLen : 140737488355328 ≤ maxLen := by unfold maxLen; omega

theorem run_append_bytes (w : World) (ty : TypeId) (base : Nat) (A : Option Addr) (n c : Nat) (l : List UInt8) (hn : n = l.length) (hown : Own w base A c l)
    (A2 : Option Addr) (m c2 : Nat) (news : List UInt8) (hm : m = news.length) (hr : Rd w A2 news) (hlen : l.length + news.length ≤ 140737488355328) (hbase : base ≤ w.heap.size) :
    ∃ A' c' w', (Builtin.append_ #[32, 32] ty #[.slice A n c, .slice A2 m c2]).run Tryd.prog w = .ok (.slice A' (l ++ news).length c') w' ∧
      Own w' base A' c' (l ++ news) ∧ Below base w w' ∧ w.grownBy w' (Value.slice A n c).ownBlock := by
  subst hn hm
  obtain ⟨i, hi, hz0, hz1, hz2⟩ := info_parts u8_info
  rcases news with _ | ⟨x, xs⟩
  · cases A2 with
    | none =>
      refine ⟨A, c, w, ?_, by simpa using hown, Below.refl _ _, World.grownBy.refl _ _⟩
      have := run_append_of_nil (P := Tryd.prog) w base 32 ty _ i 1 u8_slice hi _ _ _ hown c2
      simpa using this
    | some ad =>
      obtain ⟨v', w', hrun, h2, h3, _⟩ := run_append_own (P := Tryd.prog) w base 32 ty _ i _ 1 1 u8_slice hi hz0 hz1 hz2 rfl (by omega) _ _ _ hown ad 0 c2 [] rfl (by simp) (by simp) (by have := le_maxLen; simp at hlen; omega) (by simp at hlen; omega) hbase
      have hv : ∃ A' c', v' = .slice A' l.length c' := by
        rcases h2.2 with ⟨hv, hn⟩ | ⟨g, cap, cur, hv, _⟩
        · exact ⟨none, 0, by rw [hv, show l.length = 0 by simpa using hn]⟩
        · exact ⟨_, _, hv⟩
      obtain ⟨A', c', rfl⟩ := hv
      refine ⟨A', c', w', by simpa using hrun, by simpa [Own] using h2, ?_, h3⟩
      exact (Below.refl _ _).grown h3 hbase (fun k hk => (World.ownsRow.lt hown k hk).1)
  · have hne : (x :: xs) ≠ [] := by simp
    obtain ⟨b, o, rfl, hc⟩ := hr hne
    obtain ⟨v', w', hrun, h2, h3, _⟩ := run_append_own (P := Tryd.prog) w base 32 ty _ i _ 1 1 u8_slice hi hz0 hz1 hz2 rfl (by omega) _ _ _ hown ⟨b, o, none⟩ (x :: xs).length c2 (bvs (x :: xs)) (by simp [bvs])
      (by
        intro j u hu
        have hj : j < (x :: xs).length := by have := (List.getElem?_eq_some_iff.1 hu).1; rwa [bvs_length] at this
        rw [Addr.add_lit, hc j hj, ← hu, bvs_get _ _ hj])
      (bvs_one _) (by have := le_maxLen; omega) (by omega) hbase
    have hv : ∃ A' c', v' = .slice A' (l ++ x :: xs).length c' := by
      rw [List.length_append]
      rcases h2.2 with ⟨hv, hn⟩ | ⟨g, cap, cur, hv, _⟩
      · exact ⟨none, 0, by rw [hv, hn]⟩
      · exact ⟨_, _, hv⟩
    obtain ⟨A', c', rfl⟩ := hv
    refine ⟨A', c', w', hrun, ?_, ?_, h3⟩
    · unfold Own
      rw [bvs_append, List.length_append] 
      rw [List.length_append] at h2
      exact h2
    · exact (Below.refl _ _).grown h3 hbase (fun k hk => (World.ownsRow.lt hown k hk).1)

theorem wpList_make_bytes {ops : Array Oper} {rest : List Oper} {o : Oper} {a : Act} {Q : Exit → Act → World → Prop} (w : World) (hg : o.guard = none) (l c : Operand) (hop : o.op = Op.makeSlice 32 l c)
    (base : Nat) (kl kc : IntKind) (L C : Int) (n : Nat) (hl : a.eval l = .int kl L) (hc : a.eval c = .int kc C) (hL : L = (n : Int)) (hC : C = (n : Int)) (b2 : n ≤ 140737488355328) (b4 : base ≤ w.heap.size)
    (hK : ∀ w', Own w' base (some ⟨w.heap.size, 0, none⟩) n (List.replicate n 0) → Below w.heap.size w w' → w'.heap.size = w.heap.size + 1 → wpList Tryd.prog ops Q rest (a.put o.dst (.slice (some ⟨w.heap.size, 0, none⟩) n n)) w') :
    wpList Tryd.prog ops Q (o :: rest) a w := by
  obtain ⟨i, hi, hz0, hz1, hz2⟩ := info_parts u8_info
  have b2' : i.bytes * n ≤ 281474976710656 := by rw [hz2]; omega
  have b3' : n ≤ 9223372036854775807 := by omega
  refine wpList_plain hg fun K hK' => ?_
  have hb' : (i.bytes : Int) * (n : Int) ≤ 281474976710656 := by
    have h : ((i.bytes * n : Nat) : Int) ≤ 281474976710656 := by omega
    rwa [Int.natCast_mul] at h
  have hr := run_make (P := Tryd.prog) w _ _ i _ u8_slice hi hz0 kl kc n n (by omega) (by omega) hb' (by omega)
  simp only [Int.toNat_natCast] at hr
  subst hL hC
  have hown : Own (w.alloc (.cells (madeCells (Value.int .u8 0).cells (n * i.size)) 5)) base (some ⟨w.heap.size, 0, none⟩) n (List.replicate n 0) := by
    unfold Own
    rw [hz1, Nat.mul_one, List.length_replicate]
    have h1 := World.ownsRow_lit (base := base) (e := 5) (size := 1) w (madeCells (Value.int .u8 0).cells n) n b4 (by unfold maxLen; omega) (by simp [size_madeCells])
    have e : (madeCells (Value.int .u8 0).cells n).toList = bvs (List.replicate n 0) := by
      rw [show (Value.int .u8 0).cells = #[Value.int .u8 0] from rfl, toList_madeCells_one]
      simp [bvs]
    rwa [e] at h1
  unfold Oper.wp
  simp [execOp, hop, hl, hc, hr, Result.andThen]
  exact hK' _ _ (hK _ hown ((Below.refl _ _).alloc (Nat.le_refl _) _) (by simp))

theorem wpList_append_bytes {ops : Array Oper} {rest : List Oper} {o : Oper} {a : Act} {Q : Exit → Act → World → Prop} (w : World) (hgd : o.guard = none) (s x : Operand)
    (ho : o.op = .call { callee := .builtin .append, args := #[s, x], argTypes := #[32, 32] })
    (base : Nat) (A : Option Addr) (n c : Nat) (l : List UInt8) (hs : a.eval s = .slice A n c) (hn : n = l.length) (hown : Own w base A c l)
    (A2 : Option Addr) (m c2 : Nat) (news : List UInt8) (hx : a.eval x = .slice A2 m c2) (hm : m = news.length) (hr : Rd w A2 news) (hlen : l.length + news.length ≤ 140737488355328) (hbase : base ≤ w.heap.size)
    (h : ∀ A' c' w', Own w' base A' c' (l ++ news) → Below base w w' → w.grownBy w' (Value.slice A n c).ownBlock → wpList Tryd.prog ops Q rest (a.put o.dst (.slice A' (l ++ news).length c')) w') : wpList Tryd.prog ops Q (o :: rest) a w := by
  refine wpList_plain hgd fun _ hK => ?_
  obtain ⟨A', c', w', hrun, h2, h3, h4⟩ := run_append_bytes w o.type base A n c l hn hown A2 m c2 news hm hr hlen hbase
  unfold Oper.wp execOp
  simp only [ho, resolve, invoke, builtin, Sem.run_bind, Sem.run_pure, Result.andThen_ok, List.map_toArray, List.map_cons, List.map_nil, hs, hx, hrun]
  exact hK _ _ (h A' c' w' h2 h3 h4)

/-- a string's bytes -/
theorem strCells_bvs (s : ByteArray) : Go.Lib.strCells s = bvs s.data.toList := rfl
theorem wpList_append_str {ops : Array Oper} {rest : List Oper} {o : Oper} {a : Act} {Q : Exit → Act → World → Prop} (w : World) (hgd : o.guard = none) (s x : Operand)
    (ho : o.op = .call { callee := .builtin .append, args := #[s, x], argTypes := #[32, 9] })
    (base : Nat) (A : Option Addr) (n c : Nat) (l : List UInt8) (hs : a.eval s = .slice A n c) (hn : n = l.length) (hown : Own w base A c l)
    (t : ByteArray) (hx : a.eval x = .string t) (hlen : l.length + t.data.toList.length ≤ 140737488355328) (hbase : base ≤ w.heap.size)
    (h : ∀ A' c' w', Own w' base A' c' (l ++ t.data.toList) → Below base w w' → wpList Tryd.prog ops Q rest (a.put o.dst (.slice A' (l ++ t.data.toList).length c')) w') : wpList Tryd.prog ops Q (o :: rest) a w := by
  obtain ⟨i, hi, hz0, hz1, hz2⟩ := info_parts u8_info
  subst hn
  have ht : t.size = t.data.toList.length := (Array.length_toList (xs := t.data)).symm
  refine Go.Lib.wpList_append_own_string (P := Tryd.prog) w hgd s x _ _ ho base 5 i u8_slice Tryd.underlying9 hi hz0 hz1 hz2 _ _ _ hs hown t hx (by have := le_maxLen; omega) (by omega) hbase ?_
  intro v' w' h2 h3 _
  rw [strCells_bvs, ← bvs_append, ht, ← List.length_append] at h2
  have hv : ∃ A' c', v' = .slice A' (l ++ t.data.toList).length c' := by
    rcases h2.2 with ⟨hv, hn⟩ | ⟨g, cap, cur, hv, _⟩
    · exact ⟨none, 0, by rw [hv, hn]⟩
    · exact ⟨_, _, hv⟩
  obtain ⟨A', c', rfl⟩ := hv
  exact h A' c' w' h2 ((Below.refl _ _).grown h3 hbase (fun k hk => (World.ownsRow.lt hown k hk).1))

theorem run_convert_str (w : World) (A : Option Addr) (n c : Nat) (l : List UInt8) (hn : n = l.length) (hr : Rd w A l) :
    (convert 32 9 (.slice A n c)).run Tryd.prog w = .ok (.string ⟨l.toArray⟩) w := by
  subst hn
  have base : ∀ a : Addr, (∀ j (hj : j < l.length), w.cell? (a.add j) = some (.int .u8 (l[j].toNat : Int))) →
      (convert 32 9 (.slice (some a) l.length c)).run Tryd.prog w = .ok (.string ⟨l.toArray⟩) w := fun a hc =>
    run_convert_bytes_back (P := Tryd.prog) w _ _ 5 a c l u8_slice Tryd.underlying5 Tryd.underlying9 hc
  cases A with
  | none =>
    cases l with
    | nil =>
      show (convert 32 9 (.slice none 0 c)).run Tryd.prog w = _
      rw [run_convert_bytes_string w _ _ 5 none 0 c u8_slice Tryd.underlying5 Tryd.underlying9]
      simp [Conv.bytesToString]
      rfl
    | cons x xs =>
      obtain ⟨b, o, e, _⟩ := hr (by simp)
      cases e
  | some a =>
    refine base a fun j hj => ?_
    obtain ⟨b, o, e, hc⟩ := hr.at_ hj
    injection e with e
    subst e
    rw [Addr.add_lit]
    exact hc j hj

theorem rd_lit (w : World) (l : List UInt8) (C : Array Value) (hC : C = (bvs l).toArray) : Rd (w.alloc (.cells C 5)) (some ⟨w.heap.size, 0, none⟩) l := by
  intro _
  refine ⟨_, _, rfl, fun i hi => ?_⟩
  have h := heap_alloc_new w (.cells C 5)
  rw [cell_of_row _ _ _ _ _ _ h, hC]
  simp [bvs, hi]
theorem rd_litf (w : World) (l : List UInt8) (C : Array Value) (fr : Nat × Nat) (hC : C = (bvs l).toArray) : Rd (w.alloc (.cells C 5 fr)) (some ⟨w.heap.size, 0, none⟩) l := by
  intro _
  refine ⟨_, _, rfl, fun i hi => ?_⟩
  have h := heap_alloc_new w (.cells C 5 fr)
  rw [cell_of_row _ _ _ _ _ _ h, hC]
  simp [bvs, hi]
theorem own_lit (w : World) (base : Nat) (l : List UInt8) (C : Array Value) (hC : C = (bvs l).toArray) (hb : base ≤ w.heap.size) (hl : l.length ≤ maxLen) (n : Nat) (hn : n = l.length) : Own (w.alloc (.cells C 5)) base (some ⟨w.heap.size, 0, none⟩) n l := by
  subst hC hn
  have := World.ownsRow_lit (base := base) (e := 5) (size := 1) w (bvs l).toArray l.length hb hl (by simp [bvs])
  simpa [Own] using this

/-- a slice of slices of bytes -/
def RdL (w : World) (A : Option Addr) (ls : List (List UInt8)) : Prop :=
  ls ≠ [] → ∃ b o, A = some ⟨b, o, none⟩ ∧ ∀ (i : Nat) (h : i < ls.length), ∃ Ai ci, w.cell? ⟨b, o + i, none⟩ = some (.slice Ai ls[i].length ci) ∧ Rd w Ai ls[i]
theorem RdL.nil (w : World) (A : Option Addr) : RdL w A [] := fun h => absurd rfl h
theorem RdL.at_ {w : World} {A : Option Addr} {ls : List (List UInt8)} (h : RdL w A ls) {k : Nat} (hk : k < ls.length) :
    ∃ b o, A = some ⟨b, o, none⟩ ∧ ∃ Ai ci, w.cell? ⟨b, o + k, none⟩ = some (.slice Ai ls[k].length ci) ∧ Rd w Ai ls[k] := by
  obtain ⟨b, o, e, h⟩ := h (fun e => by subst e; simp at hk)
  exact ⟨b, o, e, h k hk⟩
theorem RdL.below {w w' : World} {A : Option Addr} {ls : List (List UInt8)} (h : RdL w A ls) (hb : Below w.heap.size w w') : RdL w' A ls := by
  intro hn
  obtain ⟨b, o, e, hc⟩ := h hn
  refine ⟨b, o, e, fun i hi => ?_⟩
  obtain ⟨Ai, ci, h1, h2⟩ := hc i hi
  exact ⟨Ai, ci, (hb.cell (p := ⟨b, o + i, none⟩) (World.block_lt_of_cell? w _ h1)).trans h1, h2.below hb⟩

theorem rdl_lit (w : World) (e : TypeId) (vs : List (Option Addr × Nat × List UInt8)) (h : ∀ x ∈ vs, Rd w x.1 x.2.2) :
    RdL (w.alloc (.cells (vs.map fun x => Value.slice x.1 x.2.2.length x.2.1).toArray e)) (some ⟨w.heap.size, 0, none⟩) (vs.map fun x => x.2.2) := by
  intro _
  refine ⟨_, _, rfl, fun i hi => ?_⟩
  have hi' : i < vs.length := by simpa using hi
  refine ⟨vs[i].1, vs[i].2.1, ?_, ?_⟩
  · have h1 := heap_alloc_new w (.cells (vs.map fun x => Value.slice x.1 x.2.2.length x.2.1).toArray e)
    rw [cell_of_row _ _ _ _ _ _ h1]
    simp [hi']
  · simpa using (h _ (List.getElem_mem hi')).alloc _
theorem RdL.drew {w : World} {A : Option Addr} {l : List (List UInt8)} (h : RdL w A l) : RdL w.drew A l := h

theorem ofInt_i64 (a : Nat) (ha : a < 9223372036854775808) : (BitVec.ofInt 64 (a : Int)).toNat = a := by
  rw [BitVec.ofInt_natCast, BitVec.toNat_ofNat]; exact Nat.mod_eq_of_lt (by omega)
theorem i64_or_nat (a b : Nat) (ha : a < 9223372036854775808) (hb : b < 9223372036854775808) : bits .or .i64 (a : Int) (b : Int) = ((a ||| b : Nat) : Int) := by
  have hx : a ||| b < 2 ^ 63 := Nat.or_lt_two_pow (by omega) (by omega)
  show IntKind.i64.wrap ((BitVec.ofInt 64 (a : Int) ||| BitVec.ofInt 64 (b : Int)).toNat : Int) = _
  rw [BitVec.toNat_or, ofInt_i64 a ha, ofInt_i64 b hb, IntKind.wrap_i64]
  omega

theorem ret_int {k : IntKind} {a b : Int} (h : a = b) : Ending.returned (.int k a) = .returned (.int k b) := by rw [h]
theorem ret_bool {a b : Bool} (h : a = b) : Ending.returned (.bool a) = .returned (.bool b) := by rw [h]
/-- one value, nothing that was there is written -/
def RetV (w : World) (v : Value) (e : Ending) (w' : World) : Prop := e = .returned v ∧ Below w.heap.size w w'
/-- new bytes -/
def RetB (w : World) (l : List UInt8) (e : Ending) (w' : World) : Prop := ∃ A c, e = .returned (.slice A l.length c) ∧ Own w' w.heap.size A c l ∧ Below w.heap.size w w'
/-- new bytes and a number -/
def RetBI (w : World) (l : List UInt8) (k : Int) (e : Ending) (w' : World) : Prop :=
  ∃ A c, e = .returned (.tuple #[.slice A l.length c, .int .i64 k]) ∧ Own w' w.heap.size A c l ∧ Below w.heap.size w w'
/-- a part of a slice of bytes that came in, and a number: nothing is written -/
def RetSI (w : World) (l : List UInt8) (k : Int) (e : Ending) (w' : World) : Prop := ∃ A c, e = .returned (.tuple #[.slice A l.length c, .int .i64 k]) ∧ Rd w A l ∧ l.length ≤ c ∧ c ≤ maxLen ∧ w = w'
/-- are lists of bytes the same? -/
def eqB (l m : List UInt8) : Bool := decide (l = m)
abbrev str (l : List UInt8) : Value := .string ⟨l.toArray⟩

theorem bt {w a b : World} (h : Below w.heap.size w a) (k : Below a.heap.size a b) : Below w.heap.size w b := h.trans (k.mono h.size)
theorem bel_trans {B : Nat} {a b c : World} (h : Below B a b) (k : Below b.heap.size b c) (hB : B ≤ b.heap.size) : Below B a c := h.trans (k.mono hB)
end Go.Proofs.YtiieakndjheknaaDoor

/-
  THE WALKS OF Same AND Copy (the reference's two words on bytes).
-/
namespace Go.Proofs.YtiieakndjheknaaDoor
set_option maxRecDepth 100000
open Go.RowKit

theorem eqB_self (l : List UInt8) : eqB l l = true := by simp [eqB]

end Go.Proofs.YtiieakndjheknaaDoor

/-
  A BLOCK KNOWN WHOLE: memory that a call made, its cells written out.
-/
namespace Go.Proofs.YtiieakndjheknaaDoor
set_option maxRecDepth 100000
open Go.RowKit

/-- block g is just these cells, none frozen -/
def Blk (w : World) (g : Nat) (t : TypeId) (cs : Array Value) : Prop := w.heap[g]? = some (.cells cs t (0, 0))

theorem Blk.lt {w : World} {g : Nat} {t : TypeId} {cs : Array Value} (h : Blk w g t cs) : g < w.heap.size := by
  unfold Blk at h
  exact (Array.getElem?_eq_some_iff.1 h).1
theorem Blk.cell {w : World} {g : Nat} {t : TypeId} {cs : Array Value} (h : Blk w g t cs) (i : Nat) : w.cell? ⟨g, i, none⟩ = cs[i]? := cell_of_row w g i cs t (0, 0) h
theorem Blk.frozen {w : World} {g : Nat} {t : TypeId} {cs : Array Value} (h : Blk w g t cs) (i : Nat) : w.frozen? ⟨g, i, none⟩ = false := by
  unfold Blk at h
  simp [World.frozen?, h]
theorem Blk.new (w : World) (t : TypeId) (cs : Array Value) : Blk (w.alloc (.cells cs t)) w.heap.size t cs := heap_alloc_new w _
theorem Blk.new' {w : World} {g : Nat} (t : TypeId) (cs : Array Value) (hg : g = w.heap.size) : Blk (w.alloc (.cells cs t)) g t cs := by subst hg; exact Blk.new w t cs
theorem Blk.alloc {w : World} {g : Nat} {t : TypeId} {cs : Array Value} (h : Blk w g t cs) (o : Obj) : Blk (w.alloc o) g t cs := (Below.heap_alloc w o g h.lt).trans h
theorem Blk.drew {w : World} {g : Nat} {t : TypeId} {cs : Array Value} (h : Blk w g t cs) : Blk w.drew g t cs := h
theorem Blk.set {w : World} {g : Nat} {t : TypeId} {cs : Array Value} (h : Blk w g t cs) (i : Nat) (u : Value) : Blk (w.setCell ⟨g, i, none⟩ u) g t (cs.setIfInBounds i u) := by
  unfold Blk at h ⊢
  simp [World.setCell, Array.getElem?_modify, h]
theorem Blk.far {w : World} {g : Nat} {t : TypeId} {cs : Array Value} (h : Blk w g t cs) {p : Addr} (hp : g ≠ p.block) (u : Value) : Blk (w.setCell p u) g t cs := (Below.heap_setCell w p u g hp).trans h
theorem Blk.below {w w' : World} {B g : Nat} {t : TypeId} {cs : Array Value} (h : Blk w g t cs) (hb : Below B w w') (hg : g < B) : Blk w' g t cs := (hb.block g hg).trans h
theorem Blk.bel {w w' : World} {g : Nat} {t : TypeId} {cs : Array Value} (h : Blk w g t cs) (hb : Below w.heap.size w w') : Blk w' g t cs := h.below hb h.lt
theorem Blk.grown {w w' : World} {g : Nat} {t : TypeId} {cs : Array Value} {row : Option Nat} (h : Blk w g t cs) (hb : w.grownBy w' row) (hg : row ≠ some g) : Blk w' g t cs :=
  (hb.block g h.lt (fun e => hg e.symm)).trans h
theorem Blk.c {w : World} {g : Nat} {t : TypeId} {cs : Array Value} (h : Blk w g t cs) (i : Nat) (v : Value) (hv : cs[i]? = some v) : w.cell? ⟨g, i, none⟩ = some v := (h.cell i).trans hv
end Go.Proofs.YtiieakndjheknaaDoor

/-
  REGIONS THAT DRAW THEIR ORDER AND WHOSE CALLEES MAKE MEMORY OF THEIR OWN: one walk in the order of the text. The class of worlds: those that are as this one below its own size.
-/
namespace Go.Proofs.YtiieakndjheknaaDoor
set_option maxRecDepth 100000
open Go.RowKit

/-- the world w, with what x has made since -/
def BW (w x : World) : World := { x with heap := w.heap ++ x.heap, tape := w.tape, os := w.os, output := w.output }

theorem BW_below (w x : World) : Below w.heap.size w (BW w x) :=
  ⟨rfl, rfl, rfl, by simp [BW], fun k hk => by simp [BW, Array.getElem?_append_left hk]⟩
theorem BW_of {w w' : World} (h : Below w.heap.size w w') : ∃ x, w' = BW w x := by
  refine ⟨{ w' with heap := w'.heap.extract w.heap.size w'.heap.size }, ?_⟩
  have hh : w.heap ++ w'.heap.extract w.heap.size w'.heap.size = w'.heap := by
    apply Array.ext_getElem?
    intro i
    by_cases hi : i < w.heap.size
    · rw [Array.getElem?_append_left hi, h.block i hi]
    · have := h.size
      rw [Array.getElem?_append_right (by omega), Array.getElem?_extract]
      by_cases h2 : i < w'.heap.size
      · rw [if_pos (by omega)]; congr 1; omega
      · rw [if_neg (by omega), Array.getElem?_eq_none (by omega)]
  obtain ⟨hp, tp, dr, os, out⟩ := w'
  have h1 := h.os
  have h2 := h.tape
  have h3 := h.output
  simp only at h1 h2 h3 hh
  simp only [BW, hh]
  rw [h1, h2, h3]
theorem BW_cell (w x : World) (a : Addr) (h : a.block < w.heap.size) : (BW w x).cell? a = w.cell? a := (BW_below w x).cell h
theorem BW_frozen (w x : World) (a : Addr) (h : a.block < w.heap.size) : (BW w x).frozen? a = w.frozen? a := (BW_below w x).frozen h
theorem BW_bel {w x w' : World} (h : Below (BW w x).heap.size (BW w x) w') : ∃ y, w' = BW w y := BW_of (bt (BW_below w x) h)
theorem BW_get {w w' : World} (h : ∃ x, w' = BW w x) : Below w.heap.size w w' := by
  obtain ⟨x, rfl⟩ := h
  exact BW_below w x
theorem Rd.bw {w : World} {A : Option Addr} {l : List UInt8} (h : Rd w A l) (x : World) : Rd (BW w x) A l := h.below (BW_below w x)

section
variable {P : Program}
theorem wp_region_calm {id : Nat} {Q : Exit → Act → World → Prop} {a : Act} {w : World} {l : List Oper} (hm : P.follows .mixedOrders = true) (hB : Region.lexB .any l.toArray = true)
    (h : wpQuiet P l.toArray (fun w' => ∃ x, w' = BW w x) (fun a' => ∀ w', (∃ x, w' = BW w x) → Q .normal a' w') l a) : (Code.region id l.toArray true).wp P Q a w :=
  wp_region_quiet (C := fun w' => ∃ x, w' = BW w x) hm hB (BW_of ⟨rfl, rfl, rfl, Nat.le_refl _, fun _ _ => rfl⟩) (by simpa using h)
/-- a callee that makes memory of its own -/
theorem calm_of {f : FuncId} {args : Array Value} {w x : World} {v : Value} (h : Calls P f args (BW w x) (RetV (BW w x) v)) : Calls P f args (BW w x) fun e w'' => e = .returned v ∧ ∃ y, w'' = BW w y :=
  h.mono fun _ _ ⟨he, hb⟩ => ⟨he, BW_bel hb⟩
/-- a callee that only computes -/
theorem calm_same {f : FuncId} {args : Array Value} {w x : World} {v : Value} (h : Calls P f args (BW w x) fun e w' => e = .returned v ∧ BW w x = w') : Calls P f args (BW w x) fun e w'' => e = .returned v ∧ ∃ y, w'' = BW w y :=
  h.mono fun _ _ ⟨he, hb⟩ => ⟨he, x, hb.symm⟩
end
end Go.Proofs.YtiieakndjheknaaDoor

/-
  PLAIN: numbers as bytes, the lowest first; texts; what the chapter on octets says, as plain functions. No program in sight.
-/
namespace Go.Proofs.YtiieakndjheknaaDoor
set_option maxRecDepth 100000

def leB : Nat → Nat → List UInt8
  | 0, _ => []
  | k + 1, n => UInt8.ofNat n :: leB k (n / 256)
def leN : List UInt8 → Nat
  | [] => 0
  | c :: l => c.toNat + 256 * leN l
theorem leB_length (k n : Nat) : (leB k n).length = k := by
  induction k generalizing n with
  | zero => rfl
  | succ k ih => simp [leB, ih]
theorem ofNat_toNat (n : Nat) : (UInt8.ofNat n).toNat = n % 256 := by simp
theorem div_pow_succ (N k : Nat) : N / 256 ^ k / 256 = N / 256 ^ (k + 1) := by rw [Nat.div_div_eq_div_mul, Nat.pow_succ]
theorem leB_succ (k n : Nat) : leB (k + 1) n = leB k n ++ [UInt8.ofNat (n / 256 ^ k)] := by
  induction k generalizing n with
  | zero => simp [leB]
  | succ k ih =>
    rw [leB, ih, leB, List.cons_append]
    congr 4
    rw [Nat.div_div_eq_div_mul, Nat.pow_succ, Nat.mul_comm]
theorem leN_lt (l : List UInt8) : leN l < 256 ^ l.length := by
  induction l with
  | nil => simp [leN]
  | cons c l ih =>
    have := c.toNat_lt
    simp only [leN, List.length_cons, Nat.pow_succ]
    omega
theorem leN_leB (k n : Nat) : leN (leB k n) = n % 256 ^ k := by
  induction k generalizing n with
  | zero => simp [leB, leN, Nat.mod_one]
  | succ k ih =>
    rw [leB, leN, ih, ofNat_toNat, Nat.pow_succ, Nat.mul_comm (256 ^ k) 256, Nat.mod_mul]
theorem leB_leN (l : List UInt8) : leB l.length (leN l) = l := by
  induction l with
  | nil => rfl
  | cons c l ih =>
    have hc := c.toNat_lt
    simp only [leN, List.length_cons, leB]
    have h1 : (c.toNat + 256 * leN l) / 256 = leN l := by omega
    rw [h1, ih]
    congr 1
    apply UInt8.toNat_inj.1
    rw [ofNat_toNat]
    omega
theorem leN_append (l m : List UInt8) : leN (l ++ m) = leN l + 256 ^ l.length * leN m := by
  induction l with
  | nil => simp [leN]
  | cons c l ih =>
    simp only [List.cons_append, leN, ih, List.length_cons, Nat.pow_succ]
    rw [Nat.mul_add, ← Nat.mul_assoc, Nat.mul_comm (256 ^ l.length) 256]; omega
theorem leB_add (j k n : Nat) : leB (j + k) n = leB j n ++ leB k (n / 256 ^ j) := by
  induction j generalizing n with
  | zero => simp [leB]
  | succ j ih =>
    rw [show j + 1 + k = (j + k) + 1 by omega, leB, ih, leB, List.cons_append, Nat.div_div_eq_div_mul, Nat.pow_succ, Nat.mul_comm (256 ^ j) 256]
theorem leB_mod (k n : Nat) : leB k (n % 256 ^ k) = leB k n := by
  have := leB_leN (leB k n)
  rwa [leB_length, leN_leB] at this
theorem leB_inj {k n m : Nat} (hn : n < 256 ^ k) (hm : m < 256 ^ k) (h : leB k n = leB k m) : n = m := by
  have := congrArg leN h
  rwa [leN_leB, leN_leB, Nat.mod_eq_of_lt hn, Nat.mod_eq_of_lt hm] at this

def isWidth (n : Int) : Bool := n == 1 || n == 2 || n == 4 || n == 6
def many (n : Int) : Int := if n = 1 then 256 else if n = 2 then 65536 else if n = 4 then 4294967296 else if n = 6 then 281474976710656 else 0
def fitsB (width n : Int) : Bool := decide (0 ≤ n) && decide (n < many width)
def putL (width n : Int) : List UInt8 := if fitsB width n then leB width.toNat n.toNat else []
def putE (width n : Int) : Int := if fitsB width n then 0 else 2

theorem isWidth_cases {n : Int} (h : isWidth n = true) : n = 1 ∨ n = 2 ∨ n = 4 ∨ n = 6 := by
  simp [isWidth] at h; omega
theorem many_pos {n : Int} : (many n == 0) = !isWidth n := by
  unfold many isWidth
  split
  · rename_i e; subst e; rfl
  split
  · rename_i e; subst e; rfl
  split
  · rename_i e; subst e; rfl
  split
  · rename_i e; subst e; rfl
  simp_all
theorem fitsB_eq (width n : Int) : fitsB width n = (isWidth width && decide (0 ≤ n) && decide (n < 256 ^ width.toNat)) := by
  unfold fitsB
  cases h : isWidth width
  · have : many width = 0 := by have := many_pos (n := width); rw [h] at this; simpa using this
    rw [this]
    by_cases h0 : 0 ≤ n <;> simp [h0]
  · rcases isWidth_cases h with rfl | rfl | rfl | rfl <;> simp [many]
theorem fitsB_true {width n : Int} (h : fitsB width n = true) : isWidth width = true ∧ 0 ≤ width ∧ width ≤ 6 ∧ 0 ≤ n ∧ n < 281474976710656 ∧ n < 256 ^ width.toNat := by
  rw [fitsB_eq] at h
  simp only [Bool.and_eq_true, decide_eq_true_eq] at h
  obtain ⟨⟨h0, h1⟩, h2⟩ := h
  refine ⟨h0, ?_, ?_, h1, ?_, h2⟩
  · rcases isWidth_cases h0 with rfl | rfl | rfl | rfl <;> omega
  · rcases isWidth_cases h0 with rfl | rfl | rfl | rfl <;> omega
  · rcases isWidth_cases h0 with rfl | rfl | rfl | rfl <;> simp at h2 <;> omega
theorem fitsB_nat {W N : Nat} (hw : isWidth W = true) : fitsB W N = decide (N / 256 ^ W = 0) := by
  rw [fitsB_eq, hw]
  have : N / 256 ^ W = 0 ↔ N < 256 ^ W := by
    rw [Nat.div_eq_zero_iff]
    have : 0 < 256 ^ W := Nat.pow_pos (by omega)
    omega
  simp only [this, Bool.true_and, Int.toNat_natCast]
  have h2 : ((N : Int) < 256 ^ W) ↔ N < 256 ^ W := by
    rw [← Int.ofNat_lt]; simp
  simp only [h2]
  simp

theorem isWidth_bounds {n : Int} (h : isWidth n = true) : 1 ≤ n ∧ n ≤ 6 := by rcases isWidth_cases h with rfl | rfl | rfl | rfl <;> omega

/-- what is read of a number at a place: the number, the place behind it, the error -/
def getE (l : List UInt8) (at_ width : Int) : Int :=
  if isWidth width = false then 2 else if at_ < 0 ∨ (l.length : Int) < at_ then 2 else if (l.length : Int) - at_ < width then 10 else 0
def getN (l : List UInt8) (at_ width : Int) : Int := if getE l at_ width = 0 then (leN ((l.drop at_.toNat).take width.toNat) : Nat) else 0
def getP (l : List UInt8) (at_ width : Int) : Int := if getE l at_ width = 0 then at_ + width else 0

theorem getE_zero {l : List UInt8} {at_ width : Int} (h : getE l at_ width = 0) : isWidth width = true ∧ 0 ≤ at_ ∧ at_ + width ≤ l.length := by
  unfold getE at h
  split at h
  · omega
  split at h
  · omega
  split at h
  · omega
  rename_i h1 h2 h3
  exact ⟨by simpa using h1, by omega, by omega⟩

theorem leN_take_lt (l : List UInt8) (k W : Nat) : leN ((l.drop k).take W) < 256 ^ W := by
  refine Nat.lt_of_lt_of_le (leN_lt _) (Nat.pow_le_pow_right (by omega) ?_)
  simp; omega

/-- the error of a text that is read -/
def readE (l : List UInt8) (at_ : Int) : Int :=
  if getE l at_ 1 ≠ 0 then getE l at_ 1 else if (l.length : Int) - (at_ + 1) < getN l at_ 1 then 10 else 0
def readS (l : List UInt8) (at_ : Int) : List UInt8 := if readE l at_ = 0 then (l.drop (at_.toNat + 1)).take (getN l at_ 1).toNat else []
def readP (l : List UInt8) (at_ : Int) : Int := if readE l at_ = 0 then at_ + 1 + getN l at_ 1 else 0

/-- a text's bytes -/
def textL (s : List UInt8) : List UInt8 := if s.length ≤ 255 then UInt8.ofNat s.length :: s else []
def textE (s : List UInt8) : Int := if s.length ≤ 255 then 0 else 3

theorem flatten_take_succ (ls : List (List UInt8)) (k : Nat) (h : k < ls.length) : (ls.take (k + 1)).flatten = (ls.take k).flatten ++ ls[k] := by
  rw [List.take_succ_eq_append_getElem h, List.flatten_append]; simp
theorem flatten_take_le (ls : List (List UInt8)) (k : Nat) (h : k < ls.length) : (ls.take k).flatten.length + ls[k].length ≤ ls.flatten.length := by
  rw [← List.length_append, ← flatten_take_succ ls k h]
  conv => rhs; rw [← List.take_append_drop (k + 1) ls, List.flatten_append, List.length_append]
  omega
theorem set_mid (l : List UInt8) (m : Nat) (x : UInt8) (hm : 0 < m) : (l ++ List.replicate m 0).set l.length x = (l ++ [x]) ++ List.replicate (m - 1) 0 := by
  obtain ⟨m, rfl⟩ : ∃ k, m = k + 1 := ⟨m - 1, by omega⟩
  rw [List.set_append_right _ _ (Nat.le_refl _), Nat.sub_self, List.replicate_succ, List.set_cons_zero, List.append_assoc]
  rfl
theorem shr_byte (N k : Nat) : (N : Int) / 2 ^ (8 * k) % 256 = ((UInt8.ofNat (N / 256 ^ k)).toNat : Int) := by
  rw [ofNat_toNat, show (256 : Nat) = 2 ^ 8 from rfl, ← Nat.pow_mul]
  simp
end Go.Proofs.YtiieakndjheknaaDoor

/-
  THE WALKS OF OCTET AND ITS REFERENCE: what each call answers; nothing that was there is written.
-/
namespace Go.Proofs.YtiieakndjheknaaDoor
set_option maxRecDepth 100000
open Go.RowKit

/-- the error of a part -/
def pieceE (l : List UInt8) (at_ n : Int) : Int := if at_ < 0 ∨ (l.length : Int) < at_ then 2 else if (l.length : Int) - at_ < n then 10 else 0

theorem getE_one (l : List UInt8) (at_ : Int) : getE l at_ 1 = pieceE l at_ 1 := by simp [getE, pieceE, isWidth]
theorem getE_piece {l : List UInt8} {at_ width : Int} (h : isWidth width = true) : getE l at_ width = pieceE l at_ width := by simp [getE, pieceE, h]

/-- a number, a place, an error -/
def RetG (w : World) (n p e : Int) : Ending → World → Prop := RetV w (.tuple #[.int .i64 n, .int .i64 p, .int .i64 e])

theorem take_rev_step (l : List UInt8) (W k : Nat) (hW : l.length = W) (hk : k < W) :
    leN (l.drop (W - (k + 1))) = leN (l.drop (W - k)) * 256 + (l[W - 1 - k]'(by omega)).toNat := by
  have e : l.drop (W - (k + 1)) = (l[W - 1 - k]'(by omega)) :: l.drop (W - k) := by
    rw [show W - (k + 1) = W - 1 - k by omega, List.drop_eq_getElem_cons (by omega), show W - 1 - k + 1 = W - k by omega]
  rw [e, leN]; omega

theorem or_byte (n c : Nat) (hc : c < 256) : (n * 256 ||| c) = n * 256 + c := by
  have := Nat.two_pow_add_eq_or_of_lt (i := 8) (b := c) (by omega) n
  rw [Nat.mul_comm] at this
  exact this.symm

end Go.Proofs.YtiieakndjheknaaDoor

/-
  THE WALKS OF THE REFERENCE OF OCTET: each answers what the plain functions say; nothing that was there is written.
-/
namespace Go.Proofs.YtiieakndjheknaaDoor
set_option maxRecDepth 100000
open Go.RowKit

end Go.Proofs.YtiieakndjheknaaDoor

/-
  SMALL WORDS FOR WALKS: results, bytes read, what is the same.
-/
namespace Go.Proofs.YtiieakndjheknaaDoor
set_option maxRecDepth 100000
open Go.RowKit
set_option linter.unusedVariables false

def inB (n l m : Int) : Bool := decide (l ≤ n) && decide (n ≤ m)
theorem inB_true {n l m : Int} (h : inB n l m = true) : l ≤ n ∧ n ≤ m := by simpa [inB] using h
theorem inB_mk {n l m : Int} (h1 : l ≤ n) (h2 : n ≤ m) : inB n l m = true := by simp [inB, h1, h2]
theorem inB_no {n l m : Int} (h : n < l ∨ m < n) : inB n l m = false := by
  cases e : inB n l m
  · rfl
  · have := inB_true e; omega

theorem bcell {W w1 : World} (hb : Below W.heap.size W w1) : (∀ b o, b < W.heap.size → w1.cell? ⟨b, o, none⟩ = W.cell? ⟨b, o, none⟩) ∧ (∀ b o, b < W.heap.size → w1.frozen? ⟨b, o, none⟩ = W.frozen? ⟨b, o, none⟩) :=
  ⟨fun b o h => hb.cell (p := ⟨b, o, none⟩) h, fun b o h => hb.frozen (p := ⟨b, o, none⟩) h⟩
theorem bal {w a : World} (h : Below w.heap.size w a) (o : Obj) : Below w.heap.size w (a.alloc o) := h.alloc h.size o
theorem bal0 (w : World) (o : Obj) : Below w.heap.size w (w.alloc o) := (Below.refl _ _).alloc (Nat.le_refl _) _
/-- behind a new block and a call -/
theorem bac {w a : World} {o : Obj} (h : Below (w.alloc o).heap.size (w.alloc o) a) : Below w.heap.size w a := bt (bal0 w o) h
theorem retBI_mk {w w' : World} {A : Option Addr} {n c : Nat} {l : List UInt8} {k : Int} (hn : n = l.length) (ho : Own w' w.heap.size A c l) (hb : Below w.heap.size w w') : RetBI w l k (.returned (.tuple #[.slice A n c, .int .i64 k])) w' :=
  ⟨A, c, by rw [hn], ho, hb⟩
theorem retB_mk {w w' : World} {A : Option Addr} {n c : Nat} {l : List UInt8} (hn : n = l.length) (ho : Own w' w.heap.size A c l) (hb : Below w.heap.size w w') : RetB w l (.returned (.slice A n c)) w' :=
  ⟨A, c, by rw [hn], ho, hb⟩
theorem getN_byte (l : List UInt8) (i : Nat) (h : i < l.length) : getN l i 1 = (l[i].toNat : Int) := by
  have he : getE l i 1 = 0 := by
    unfold getE
    rw [show isWidth 1 = true from rfl, if_neg (by simp), if_neg (by omega), if_neg (by omega)]
  unfold getN
  rw [he, if_pos rfl, Int.toNat_natCast, List.drop_eq_getElem_cons h, show (1 : Int).toNat = 1 from rfl, List.take_succ_cons, List.take_zero]
  simp [leN]
theorem rd_byte {w : World} {b o : Nat} {l : List UInt8} (hc : ∀ (i : Nat) (h : i < l.length), w.cell? ⟨b, o + i, none⟩ = some (.int .u8 (l[i].toNat : Int))) (i : Nat) (h : i < l.length) :
    ∃ y : Nat, y < 256 ∧ w.cell? ⟨b, o + i, none⟩ = some (.int .u8 (y : Int)) ∧ Hid ((y : Int) = getN l i 1) :=
  ⟨l[i].toNat, l[i].toNat_lt, hc i h, Lib.hid (getN_byte l i h).symm⟩
theorem getN_mid {a b c : List UInt8} {W : Nat} (hw : isWidth W = true) (hb : b.length = W) : getN (a ++ (b ++ c)) a.length W = (leN b : Nat) := by
  have he : getE (a ++ (b ++ c)) a.length W = 0 := by
    unfold getE
    rw [hw, if_neg (by simp), if_neg (by simp; omega), if_neg (by simp; omega)]
  unfold getN
  rw [he, if_pos rfl]
  simp [← hb]
theorem getN_part {l : List UInt8} {o w : Nat} (hw : isWidth w = true) (h : o + w ≤ l.length) : leB w (getN l o w).toNat = (l.drop o).take w := by
  have he : getE l o w = 0 := by
    unfold getE
    rw [hw, if_neg (by simp), if_neg (by omega), if_neg (by omega)]
  unfold getN
  rw [he, if_pos rfl, Int.toNat_natCast, Int.toNat_natCast, Int.toNat_natCast]
  have := leB_leN ((l.drop o).take w)
  rwa [show ((l.drop o).take w).length = w by simp; omega] at this
theorem getN_bd (l : List UInt8) (o : Int) (w : Nat) : 0 ≤ getN l o w ∧ getN l o w < 256 ^ w := by
  unfold getN
  split
  · have := leN_take_lt l o.toNat w
    rw [Int.toNat_natCast]
    have h2 : ((leN ((l.drop o.toNat).take w) : Nat) : Int) < ((256 ^ w : Nat) : Int) := by omega
    rw [Int.natCast_pow] at h2
    exact ⟨by omega, h2⟩
  · exact ⟨by omega, by have : (0 : Int) < ((256 ^ w : Nat) : Int) := by have := Nat.pow_pos (n := w) (show 0 < 256 by omega); omega
                        rwa [Int.natCast_pow] at this⟩
theorem putL_one {n : Int} (h0 : 0 ≤ n) (h : n < 256) : putL 1 n = leB 1 n.toNat := by
  unfold putL
  rw [show fitsB 1 n = true by simp [fitsB, many, h0, h]]
  rfl
theorem putL_six {n : Int} (h0 : 0 ≤ n) (h : n < 281474976710656) : putL 6 n = leB 6 n.toNat := by
  unfold putL
  rw [show fitsB 6 n = true by simp [fitsB, many, h0, h]]
  rfl
theorem putL_two {n : Int} (h0 : 0 ≤ n) (h : n < 65536) : putL 2 n = leB 2 n.toNat := by
  unfold putL
  rw [show fitsB 2 n = true by simp [fitsB, many, h0, h]]
  rfl
theorem putL_four {n : Int} (h0 : 0 ≤ n) (h : n < 4294967296) : putL 4 n = leB 4 n.toNat := by
  unfold putL
  rw [show fitsB 4 n = true by simp [fitsB, many, h0, h]]
  rfl
theorem putL_length6 (width n : Int) : (putL width n).length ≤ 6 := by
  unfold putL
  split
  · rename_i h
    have := fitsB_true h
    rw [leB_length]; omega
  · simp
theorem u64_tmod (x : Int) (m : Int) (hm : 0 < m) : ∃ k : Nat, (IntKind.u64.wrap x).tmod m = k ∧ (k : Int) < m := by
  have h0 : 0 ≤ IntKind.u64.wrap x := by
    simp only [IntKind.wrap_u64]
    omega
  rw [Int.tmod_eq_emod_of_nonneg h0]
  have h1 := Int.emod_nonneg (IntKind.u64.wrap x) (show m ≠ 0 by omega)
  have h2 := Int.emod_lt_of_pos (IntKind.u64.wrap x) hm
  exact ⟨(IntKind.u64.wrap x % m).toNat, by omega, by omega⟩
end Go.Proofs.YtiieakndjheknaaDoor

/-
  ARGUMENTS OPENED: what the walk of a law is told of each argument; the row's step that is alike in all laws.
-/
namespace Go.Proofs.YtiieakndjheknaaDoor
set_option maxRecDepth 100000
open Go.ChangeShapes Go.WideShapes Go.ChangeAt Go.RowKit
open Go.ChangeMaps (open_string shut_string)

theorem own_ : ownKnob Tryd.prog.godebug = none := by kernel_rfl
theorem laidOut_ : laidOutB Tryd.prog = true := by kernel_rfl

section
variable {H : Type} {enc : TypeId × Value → H} {P : Program} {w : World} {base : Nat} {r : Reach} {b0 : Nat}

theorem open_int_i64 {t : TypeId} {v : Value} {d : DataW H} {ps : List MemPlace} (ht : P.underlying t = some (.int .i64)) (hval : Value.okWide P w r b0 t v) (hd : DataW.Trod enc P w base (fun _ => true) true t v d ps) :
    ∃ n : Int, v = .int .i64 n ∧ -9223372036854775808 ≤ n ∧ n ≤ 9223372036854775807 := by
  obtain ⟨n, rfl, _, _, hw⟩ := open_int ht hval hd
  simp [Lit.wf, IntKind.min, IntKind.max, IntKind.signed, IntKind.bits] at hw
  exact ⟨n, rfl, by omega, by omega⟩

theorem open_uint {k : IntKind} {t : TypeId} {v : Value} {d : DataW H} {ps : List MemPlace} (hk : k.signed = false) (ht : P.underlying t = some (.int k)) (hval : Value.okWide P w r b0 t v) (hd : DataW.Trod enc P w base (fun _ => true) true t v d ps) :
    ∃ n : Nat, v = .int k n ∧ n < 2 ^ k.bits := by
  obtain ⟨n, rfl, _, _, hw⟩ := open_int ht hval hd
  simp [Lit.wf, IntKind.min, IntKind.max, hk] at hw
  refine ⟨n.toNat, by congr; omega, ?_⟩
  have h2 : n < 2 ^ k.bits := by omega
  have h3 : ((n.toNat : Nat) : Int) < ((2 ^ k.bits : Nat) : Int) := by
    rw [Int.toNat_of_nonneg hw.1]
    simpa using h2
  omega
theorem nat_of {k : IntKind} {n : Int} (h0 : 0 ≤ n) : ∃ m : Nat, Value.int k n = .int k m ∧ n = m := ⟨n.toNat, by congr; omega, by omega⟩

theorem open_bytes {t e : TypeId} {v : Value} {d : DataW H} {ps : List MemPlace} (ht : P.underlying t = some (.slice e)) (he : P.underlying e = some (.int .u8)) (hc : P.cellsOf e = 1) (hval : Value.okWide P w r b0 t v)
    (hd : DataW.Trod enc P w base (fun _ => true) true t v d ps) :
    ∃ (A : Option Addr) (c : Nat) (l : List UInt8), v = .slice A l.length c ∧ Rd w A l ∧ l.length ≤ c ∧ c ≤ maxLen := by
  obtain ⟨a, len, cap, rfl⟩ := okWide_slice ht hval
  obtain ⟨fuel, hf⟩ := hd
  rcases open_ints ht he hc hf with ⟨hcs, _⟩ | ⟨x, l, c, zs, hcs, _, hl, hm, hz, _, hcell, hwz⟩
  · simp [Value.cells] at hcs
    obtain ⟨rfl, rfl, rfl⟩ := hcs
    exact ⟨none, 0, [], rfl, Rd.nil _ _, Nat.le_refl _, Nat.zero_le _⟩
  · simp [Value.cells] at hcs
    obtain ⟨rfl, rfl, rfl⟩ := hcs
    simp at hz
    refine ⟨some x, cap, (zs.take len).map (fun n => UInt8.ofNat n.toNat), ?_, ?_, ?_, hm⟩
    · congr 1; simp; omega
    · intro hn
      have hpos : 0 < len := by
        rcases Nat.eq_zero_or_pos len with h | h
        · subst h; simp at hn
        · exact h
      obtain ⟨b, o, spot⟩ := x
      have h0 := hcell 0 (by omega)
      have hspot : spot = none := by simpa [Addr.add] using World.cell?_spot h0
      subst hspot
      refine ⟨b, o, rfl, fun i hi => ?_⟩
      have hi2 : i < len := by simp at hi; omega
      have h1 := hcell i (by omega)
      rw [Addr.add_lit] at h1
      rw [h1]
      have hwf := hwz (zs.getD i 0) (by rw [List.getD_eq_getElem?_getD, List.getElem?_eq_getElem (by omega)]; simp)
      simp [Lit.wf, IntKind.min, IntKind.max, IntKind.signed, IntKind.bits] at hwf
      have hg : (zs.take len)[i]'(by simp; omega) = zs.getD i 0 := by
        rw [List.getElem_take, List.getD_eq_getElem?_getD, List.getElem?_eq_getElem (by omega)]; rfl
      simp only [List.getElem_map, hg]
      congr 2
      rw [UInt8.toNat_ofNat']
      have hx : zs.getD i 0 = zs[i]?.getD 0 := List.getD_eq_getElem?_getD ..
      rw [hx]
      omega
    · simp; omega
end
end Go.Proofs.YtiieakndjheknaaDoor

/-
  ARGUMENTS OPENED, MORE: structs, arrays, slices of whatever elements: a list of cells that reads as a value of a type.
-/
namespace Go.Proofs.YtiieakndjheknaaDoor
set_option maxRecDepth 100000
open Go.ChangeShapes Go.WideShapes Go.ChangeAt Go.RowKit
open Go.ChangeMaps (open_string shut_string)
set_option linter.unusedVariables false

section
variable {H : Type} {enc : TypeId × Value → H} {P : Program} {w : World} {base : Nat} {r : Reach} {b0 : Nat}

/-- these cells read as a value of the type t -/
def Tr (enc : TypeId × Value → H) (P : Program) (w : World) (base : Nat) (t : TypeId) (cs : List Value) : Prop := ∃ n x, DataW.trod enc P w base (fun _ => true) true n t cs = some x

theorem Tr.of {t : TypeId} {v : Value} {d : DataW H} {ps : List MemPlace} (hd : DataW.Trod enc P w base (fun _ => true) true t v d ps) : Tr enc P w base t v.cells.toList := by
  obtain ⟨n, hn⟩ := hd
  exact ⟨n, _, hn⟩
theorem Tr.field {t : TypeId} {cs : List Value} {fs : Array Field} (h : Tr enc P w base t cs) (ht : P.underlying t = some (.struct fs)) (j : Nat) {f : Field} (hf : fs[j]? = some f) (s : Nat) (hs : P.cellsOf f.type = s) :
    Tr enc P w base f.type ((cs.drop f.offset).take s) := by
  obtain ⟨n, x, hn⟩ := h
  obtain ⟨xs, m, _, _, _, hl, hg⟩ := DataW.trod_struct ht hn
  have h1 := hg j f hf
  have hj : j < fs.size := (Array.getElem?_eq_some_iff.1 hf).1
  rw [hs, List.getElem?_eq_getElem (by omega)] at h1
  exact ⟨m, _, h1⟩
theorem Tr.elem {t e : TypeId} {k : Nat} {cs : List Value} (h : Tr enc P w base t cs) (ht : P.underlying t = some (.array k e)) (i : Nat) (hi : i < k) (s : Nat) (hs : P.cellsOf e = s) :
    Tr enc P w base e ((cs.drop (i * s)).take s) := by
  obtain ⟨n, x, hn⟩ := h
  obtain ⟨xs, m, _, _, _, hl, hg⟩ := DataW.trod_array ht hn
  have h1 := hg i hi
  rw [hs, List.getElem?_eq_getElem (by omega)] at h1
  exact ⟨m, _, h1⟩
theorem Tr.len {t : TypeId} {cs : List Value} {fs : Array Field} (h : Tr enc P w base t cs) (ht : P.underlying t = some (.struct fs)) : cs.length = P.cellsOf t := by
  obtain ⟨n, x, hn⟩ := h
  obtain ⟨_, _, _, _, hl, _⟩ := DataW.trod_struct ht hn
  exact hl
theorem Tr.i64 {t : TypeId} {c : Value} (h : Tr enc P w base t [c]) (ht : P.underlying t = some (.int .i64)) : ∃ n : Int, c = .int .i64 n ∧ -9223372036854775808 ≤ n ∧ n ≤ 9223372036854775807 := by
  obtain ⟨_, x, hn⟩ := h
  obtain ⟨n, hc, _, hw⟩ := DataW.trod_int ht hn
  simp [Lit.wf, IntKind.min, IntKind.max, IntKind.signed, IntKind.bits] at hw
  exact ⟨n, by simpa using hc, by omega, by omega⟩
theorem Tr.uint {k : IntKind} {t : TypeId} {c : Value} (h : Tr enc P w base t [c]) (hk : k.signed = false) (ht : P.underlying t = some (.int k)) : ∃ n : Nat, c = .int k n ∧ n < 2 ^ k.bits := by
  obtain ⟨_, x, hn⟩ := h
  obtain ⟨n, hc, _, hw⟩ := DataW.trod_int ht hn
  simp [Lit.wf, IntKind.min, IntKind.max, hk] at hw
  refine ⟨n.toNat, ?_, ?_⟩
  · have : c = .int k n := by simpa using hc
    rw [this]; congr; omega
  have h2 : n < 2 ^ k.bits := by omega
  have h3 : ((n.toNat : Nat) : Int) < ((2 ^ k.bits : Nat) : Int) := by
    rw [Int.toNat_of_nonneg hw.1]
    simpa using h2
  omega
theorem Tr.bool {t : TypeId} {c : Value} (h : Tr enc P w base t [c]) (ht : P.underlying t = some .bool) : ∃ b : Bool, c = .bool b := by
  obtain ⟨_, x, hn⟩ := h
  obtain ⟨b, hc, _⟩ := DataW.trod_bool ht hn
  exact ⟨b, by simpa using hc⟩
theorem Tr.str {t : TypeId} {c : Value} (h : Tr enc P w base t [c]) (ht : P.underlying t = some .string) : ∃ s : ByteArray, c = .string s ∧ s.size ≤ maxLen := by
  obtain ⟨_, x, hn⟩ := h
  obtain ⟨s, hc, _, hs⟩ := DataW.trod_string ht hn
  exact ⟨s, by simpa using hc, hs⟩
/-- a slice: of each element the cells read -/
theorem Tr.slice {t e : TypeId} {c : Value} (h : Tr enc P w base t [c]) (ht : P.underlying t = some (.slice e)) (s : Nat) (hs : P.cellsOf e = s) :
    ∃ (A : Option Addr) (n cap : Nat), c = .slice A n cap ∧ n ≤ cap ∧ cap ≤ maxLen ∧ (0 < n → ∃ a : Addr, A = some a ∧ ∀ i, i < n → ∃ cs : List Value, cs.length = s ∧ (∀ j, j < s → w.cell? (a.add (i * s + j)) = cs[j]?) ∧ Tr enc P w base e cs) := by
  obtain ⟨_, x, hn⟩ := h
  rcases DataW.trod_slice ht hn with ⟨hc, _⟩ | ⟨a, len, cap, elems, rest, m, _, hc, _, hb, hl, hm, hlen, hg, _, _⟩
  · exact ⟨none, 0, 0, by simpa using hc, Nat.le_refl _, Nat.zero_le _, fun h => absurd h (by omega)⟩
  · refine ⟨some a, len, cap, by simpa using hc, hl, hm, fun _ => ⟨a, rfl, fun i hi => ?_⟩⟩
    have h1 := hg i hi
    rw [List.getElem?_eq_getElem (by omega), Option.bind_eq_some_iff] at h1
    obtain ⟨cs, h2, h3⟩ := h1
    rw [hs] at h2
    obtain ⟨_, h4, h5⟩ := World.cells?_some h2
    refine ⟨cs, h4, fun j hj => ?_, ⟨m, _, h3⟩⟩
    have := h5 j hj
    rwa [show (a.add (i * s)).add j = a.add (i * s + j) by
      unfold Addr.add
      by_cases h1 : i * s = 0 <;> by_cases h2 : j = 0 <;> simp [h1, h2, Nat.add_assoc]] at this
/-- a slice of bytes -/
theorem Tr.bytes {t e : TypeId} {c : Value} (h : Tr enc P w base t [c]) (ht : P.underlying t = some (.slice e)) (he : P.underlying e = some (.int .u8)) (hs : P.cellsOf e = 1) :
    ∃ (A : Option Addr) (cap : Nat) (l : List UInt8), c = .slice A l.length cap ∧ Rd w A l ∧ l.length ≤ cap ∧ cap ≤ maxLen := by
  obtain ⟨A, n, cap, rfl, hl, hm, hg⟩ := h.slice ht 1 hs
  by_cases h0 : n = 0
  · subst h0
    exact ⟨A, cap, [], rfl, Rd.nil _ _, hl, hm⟩
  · obtain ⟨a, rfl, hg2⟩ := hg (by omega)
    have hx : ∀ i, ∃ x : UInt8, i < n → w.cell? (a.add i) = some (.int .u8 (x.toNat : Int)) := by
      intro i
      by_cases hi : i < n
      · obtain ⟨cs, hcl, hcc, htr⟩ := hg2 i hi
        match cs, hcl with
        | [c0], _ =>
          obtain ⟨k, rfl, hk⟩ := htr.uint rfl he
          refine ⟨UInt8.ofNat k, fun _ => ?_⟩
          have := hcc 0 (by omega)
          rw [Nat.mul_one, Nat.add_zero] at this
          rw [this, UInt8.toNat_ofNat']
          simp [IntKind.bits] at hk
          simp only [List.getElem?_cons_zero]
          congr 2
          omega
      · exact ⟨0, fun h => absurd h hi⟩
    obtain ⟨f, hx'⟩ : ∃ f : Nat → UInt8, ∀ i, i < n → w.cell? (a.add i) = some (.int .u8 ((f i).toNat : Int)) := ⟨fun i => Classical.choose (hx i), fun i => Classical.choose_spec (hx i)⟩
    refine ⟨some a, cap, (List.range n).map f, by simp, ?_, by simpa using hl, hm⟩
    intro _
    obtain ⟨b, o, spot⟩ := a
    have h1 := hx' 0 (by omega)
    have hspot : spot = none := by simpa [Addr.add] using World.cell?_spot h1
    subst hspot
    refine ⟨b, o, rfl, fun i hi => ?_⟩
    have := hx' i (by simpa using hi)
    rw [Addr.add_lit] at this
    rw [this]
    simp
end
end Go.Proofs.YtiieakndjheknaaDoor

/-
  PLAIN: the first of some bools that is true.
-/
namespace Go.Proofs.YtiieakndjheknaaDoor
set_option maxRecDepth 100000
theorem cho2 (a b : Bool) : (a = true) ∨ (a = false ∧ b = true) ∨ (a = false ∧ b = false) := by
  cases a
  rotate_left
  · exact .inl rfl
  · cases b
    · exact .inr (.inr ⟨rfl, rfl⟩)
    · exact .inr (.inl ⟨rfl, rfl⟩)
theorem cho3 (a b c : Bool) : (a = true) ∨ (a = false ∧ b = true) ∨ (a = false ∧ b = false ∧ c = true) ∨ (a = false ∧ b = false ∧ c = false) := by
  cases a
  rotate_left
  · exact .inl rfl
  · rcases cho2 b c with h | h | h
    · exact .inr (.inl ⟨rfl, h⟩)
    · exact .inr (.inr (.inl ⟨rfl, h⟩))
    · exact .inr (.inr (.inr ⟨rfl, h⟩))
theorem cho4 (a b c d : Bool) : (a = true) ∨ (a = false ∧ b = true) ∨ (a = false ∧ b = false ∧ c = true) ∨ (a = false ∧ b = false ∧ c = false ∧ d = true) ∨ (a = false ∧ b = false ∧ c = false ∧ d = false) := by
  cases a
  rotate_left
  · exact .inl rfl
  · rcases cho3 b c d with h | h | h | h
    · exact .inr (.inl ⟨rfl, h⟩)
    · exact .inr (.inr (.inl ⟨rfl, h⟩))
    · exact .inr (.inr (.inr (.inl ⟨rfl, h⟩)))
    · exact .inr (.inr (.inr (.inr ⟨rfl, h⟩)))
theorem cho5 (a b c d e : Bool) : (a = true) ∨ (a = false ∧ b = true) ∨ (a = false ∧ b = false ∧ c = true) ∨ (a = false ∧ b = false ∧ c = false ∧ d = true) ∨ (a = false ∧ b = false ∧ c = false ∧ d = false ∧ e = true) ∨ (a = false ∧ b = false ∧ c = false ∧ d = false ∧ e = false) := by
  cases a
  rotate_left
  · exact .inl rfl
  · rcases cho4 b c d e with h | h | h | h | h
    · exact .inr (.inl ⟨rfl, h⟩)
    · exact .inr (.inr (.inl ⟨rfl, h⟩))
    · exact .inr (.inr (.inr (.inl ⟨rfl, h⟩)))
    · exact .inr (.inr (.inr (.inr (.inl ⟨rfl, h⟩))))
    · exact .inr (.inr (.inr (.inr (.inr ⟨rfl, h⟩))))
theorem cho6 (a b c d e f : Bool) : (a = true) ∨ (a = false ∧ b = true) ∨ (a = false ∧ b = false ∧ c = true) ∨ (a = false ∧ b = false ∧ c = false ∧ d = true) ∨ (a = false ∧ b = false ∧ c = false ∧ d = false ∧ e = true) ∨ (a = false ∧ b = false ∧ c = false ∧ d = false ∧ e = false ∧ f = true) ∨ (a = false ∧ b = false ∧ c = false ∧ d = false ∧ e = false ∧ f = false) := by
  cases a
  rotate_left
  · exact .inl rfl
  · rcases cho5 b c d e f with h | h | h | h | h | h
    · exact .inr (.inl ⟨rfl, h⟩)
    · exact .inr (.inr (.inl ⟨rfl, h⟩))
    · exact .inr (.inr (.inr (.inl ⟨rfl, h⟩)))
    · exact .inr (.inr (.inr (.inr (.inl ⟨rfl, h⟩))))
    · exact .inr (.inr (.inr (.inr (.inr (.inl ⟨rfl, h⟩)))))
    · exact .inr (.inr (.inr (.inr (.inr (.inr ⟨rfl, h⟩)))))
theorem cho7 (a b c d e f g : Bool) : (a = true) ∨ (a = false ∧ b = true) ∨ (a = false ∧ b = false ∧ c = true) ∨ (a = false ∧ b = false ∧ c = false ∧ d = true) ∨ (a = false ∧ b = false ∧ c = false ∧ d = false ∧ e = true) ∨ (a = false ∧ b = false ∧ c = false ∧ d = false ∧ e = false ∧ f = true) ∨ (a = false ∧ b = false ∧ c = false ∧ d = false ∧ e = false ∧ f = false ∧ g = true) ∨ (a = false ∧ b = false ∧ c = false ∧ d = false ∧ e = false ∧ f = false ∧ g = false) := by
  cases a
  rotate_left
  · exact .inl rfl
  · rcases cho6 b c d e f g with h | h | h | h | h | h | h
    · exact .inr (.inl ⟨rfl, h⟩)
    · exact .inr (.inr (.inl ⟨rfl, h⟩))
    · exact .inr (.inr (.inr (.inl ⟨rfl, h⟩)))
    · exact .inr (.inr (.inr (.inr (.inl ⟨rfl, h⟩))))
    · exact .inr (.inr (.inr (.inr (.inr (.inl ⟨rfl, h⟩)))))
    · exact .inr (.inr (.inr (.inr (.inr (.inr (.inl ⟨rfl, h⟩))))))
    · exact .inr (.inr (.inr (.inr (.inr (.inr (.inr ⟨rfl, h⟩))))))
theorem cho8 (a b c d e f g h : Bool) : (a = true) ∨ (a = false ∧ b = true) ∨ (a = false ∧ b = false ∧ c = true) ∨ (a = false ∧ b = false ∧ c = false ∧ d = true) ∨ (a = false ∧ b = false ∧ c = false ∧ d = false ∧ e = true) ∨ (a = false ∧ b = false ∧ c = false ∧ d = false ∧ e = false ∧ f = true) ∨ (a = false ∧ b = false ∧ c = false ∧ d = false ∧ e = false ∧ f = false ∧ g = true) ∨ (a = false ∧ b = false ∧ c = false ∧ d = false ∧ e = false ∧ f = false ∧ g = false ∧ h = true) ∨ (a = false ∧ b = false ∧ c = false ∧ d = false ∧ e = false ∧ f = false ∧ g = false ∧ h = false) := by
  cases a
  rotate_left
  · exact .inl rfl
  · rcases cho7 b c d e f g h with h | h | h | h | h | h | h | h
    · exact .inr (.inl ⟨rfl, h⟩)
    · exact .inr (.inr (.inl ⟨rfl, h⟩))
    · exact .inr (.inr (.inr (.inl ⟨rfl, h⟩)))
    · exact .inr (.inr (.inr (.inr (.inl ⟨rfl, h⟩))))
    · exact .inr (.inr (.inr (.inr (.inr (.inl ⟨rfl, h⟩)))))
    · exact .inr (.inr (.inr (.inr (.inr (.inr (.inl ⟨rfl, h⟩))))))
    · exact .inr (.inr (.inr (.inr (.inr (.inr (.inr (.inl ⟨rfl, h⟩)))))))
    · exact .inr (.inr (.inr (.inr (.inr (.inr (.inr (.inr ⟨rfl, h⟩)))))))
theorem cho9 (a b c d e f g h i : Bool) : (a = true) ∨ (a = false ∧ b = true) ∨ (a = false ∧ b = false ∧ c = true) ∨ (a = false ∧ b = false ∧ c = false ∧ d = true) ∨ (a = false ∧ b = false ∧ c = false ∧ d = false ∧ e = true) ∨ (a = false ∧ b = false ∧ c = false ∧ d = false ∧ e = false ∧ f = true) ∨ (a = false ∧ b = false ∧ c = false ∧ d = false ∧ e = false ∧ f = false ∧ g = true) ∨ (a = false ∧ b = false ∧ c = false ∧ d = false ∧ e = false ∧ f = false ∧ g = false ∧ h = true) ∨ (a = false ∧ b = false ∧ c = false ∧ d = false ∧ e = false ∧ f = false ∧ g = false ∧ h = false ∧ i = true) ∨ (a = false ∧ b = false ∧ c = false ∧ d = false ∧ e = false ∧ f = false ∧ g = false ∧ h = false ∧ i = false) := by
  cases a
  rotate_left
  · exact .inl rfl
  · rcases cho8 b c d e f g h i with h | h | h | h | h | h | h | h | h
    · exact .inr (.inl ⟨rfl, h⟩)
    · exact .inr (.inr (.inl ⟨rfl, h⟩))
    · exact .inr (.inr (.inr (.inl ⟨rfl, h⟩)))
    · exact .inr (.inr (.inr (.inr (.inl ⟨rfl, h⟩))))
    · exact .inr (.inr (.inr (.inr (.inr (.inl ⟨rfl, h⟩)))))
    · exact .inr (.inr (.inr (.inr (.inr (.inr (.inl ⟨rfl, h⟩))))))
    · exact .inr (.inr (.inr (.inr (.inr (.inr (.inr (.inl ⟨rfl, h⟩)))))))
    · exact .inr (.inr (.inr (.inr (.inr (.inr (.inr (.inr (.inl ⟨rfl, h⟩))))))))
    · exact .inr (.inr (.inr (.inr (.inr (.inr (.inr (.inr (.inr ⟨rfl, h⟩))))))))
theorem cho10 (a b c d e f g h i j : Bool) : (a = true) ∨ (a = false ∧ b = true) ∨ (a = false ∧ b = false ∧ c = true) ∨ (a = false ∧ b = false ∧ c = false ∧ d = true) ∨ (a = false ∧ b = false ∧ c = false ∧ d = false ∧ e = true) ∨ (a = false ∧ b = false ∧ c = false ∧ d = false ∧ e = false ∧ f = true) ∨ (a = false ∧ b = false ∧ c = false ∧ d = false ∧ e = false ∧ f = false ∧ g = true) ∨ (a = false ∧ b = false ∧ c = false ∧ d = false ∧ e = false ∧ f = false ∧ g = false ∧ h = true) ∨ (a = false ∧ b = false ∧ c = false ∧ d = false ∧ e = false ∧ f = false ∧ g = false ∧ h = false ∧ i = true) ∨ (a = false ∧ b = false ∧ c = false ∧ d = false ∧ e = false ∧ f = false ∧ g = false ∧ h = false ∧ i = false ∧ j = true) ∨ (a = false ∧ b = false ∧ c = false ∧ d = false ∧ e = false ∧ f = false ∧ g = false ∧ h = false ∧ i = false ∧ j = false) := by
  cases a
  rotate_left
  · exact .inl rfl
  · rcases cho9 b c d e f g h i j with h | h | h | h | h | h | h | h | h | h
    · exact .inr (.inl ⟨rfl, h⟩)
    · exact .inr (.inr (.inl ⟨rfl, h⟩))
    · exact .inr (.inr (.inr (.inl ⟨rfl, h⟩)))
    · exact .inr (.inr (.inr (.inr (.inl ⟨rfl, h⟩))))
    · exact .inr (.inr (.inr (.inr (.inr (.inl ⟨rfl, h⟩)))))
    · exact .inr (.inr (.inr (.inr (.inr (.inr (.inl ⟨rfl, h⟩))))))
    · exact .inr (.inr (.inr (.inr (.inr (.inr (.inr (.inl ⟨rfl, h⟩)))))))
    · exact .inr (.inr (.inr (.inr (.inr (.inr (.inr (.inr (.inl ⟨rfl, h⟩))))))))
    · exact .inr (.inr (.inr (.inr (.inr (.inr (.inr (.inr (.inr (.inl ⟨rfl, h⟩)))))))))
    · exact .inr (.inr (.inr (.inr (.inr (.inr (.inr (.inr (.inr (.inr ⟨rfl, h⟩)))))))))
theorem cho11 (a b c d e f g h i j k : Bool) : (a = true) ∨ (a = false ∧ b = true) ∨ (a = false ∧ b = false ∧ c = true) ∨ (a = false ∧ b = false ∧ c = false ∧ d = true) ∨ (a = false ∧ b = false ∧ c = false ∧ d = false ∧ e = true) ∨ (a = false ∧ b = false ∧ c = false ∧ d = false ∧ e = false ∧ f = true) ∨ (a = false ∧ b = false ∧ c = false ∧ d = false ∧ e = false ∧ f = false ∧ g = true) ∨ (a = false ∧ b = false ∧ c = false ∧ d = false ∧ e = false ∧ f = false ∧ g = false ∧ h = true) ∨ (a = false ∧ b = false ∧ c = false ∧ d = false ∧ e = false ∧ f = false ∧ g = false ∧ h = false ∧ i = true) ∨ (a = false ∧ b = false ∧ c = false ∧ d = false ∧ e = false ∧ f = false ∧ g = false ∧ h = false ∧ i = false ∧ j = true) ∨ (a = false ∧ b = false ∧ c = false ∧ d = false ∧ e = false ∧ f = false ∧ g = false ∧ h = false ∧ i = false ∧ j = false ∧ k = true) ∨ (a = false ∧ b = false ∧ c = false ∧ d = false ∧ e = false ∧ f = false ∧ g = false ∧ h = false ∧ i = false ∧ j = false ∧ k = false) := by
  cases a
  rotate_left
  · exact .inl rfl
  · rcases cho10 b c d e f g h i j k with h | h | h | h | h | h | h | h | h | h | h
    · exact .inr (.inl ⟨rfl, h⟩)
    · exact .inr (.inr (.inl ⟨rfl, h⟩))
    · exact .inr (.inr (.inr (.inl ⟨rfl, h⟩)))
    · exact .inr (.inr (.inr (.inr (.inl ⟨rfl, h⟩))))
    · exact .inr (.inr (.inr (.inr (.inr (.inl ⟨rfl, h⟩)))))
    · exact .inr (.inr (.inr (.inr (.inr (.inr (.inl ⟨rfl, h⟩))))))
    · exact .inr (.inr (.inr (.inr (.inr (.inr (.inr (.inl ⟨rfl, h⟩)))))))
    · exact .inr (.inr (.inr (.inr (.inr (.inr (.inr (.inr (.inl ⟨rfl, h⟩))))))))
    · exact .inr (.inr (.inr (.inr (.inr (.inr (.inr (.inr (.inr (.inl ⟨rfl, h⟩)))))))))
    · exact .inr (.inr (.inr (.inr (.inr (.inr (.inr (.inr (.inr (.inr (.inl ⟨rfl, h⟩))))))))))
    · exact .inr (.inr (.inr (.inr (.inr (.inr (.inr (.inr (.inr (.inr (.inr ⟨rfl, h⟩))))))))))
theorem cho12 (a b c d e f g h i j k l : Bool) : (a = true) ∨ (a = false ∧ b = true) ∨ (a = false ∧ b = false ∧ c = true) ∨ (a = false ∧ b = false ∧ c = false ∧ d = true) ∨ (a = false ∧ b = false ∧ c = false ∧ d = false ∧ e = true) ∨ (a = false ∧ b = false ∧ c = false ∧ d = false ∧ e = false ∧ f = true) ∨ (a = false ∧ b = false ∧ c = false ∧ d = false ∧ e = false ∧ f = false ∧ g = true) ∨ (a = false ∧ b = false ∧ c = false ∧ d = false ∧ e = false ∧ f = false ∧ g = false ∧ h = true) ∨ (a = false ∧ b = false ∧ c = false ∧ d = false ∧ e = false ∧ f = false ∧ g = false ∧ h = false ∧ i = true) ∨ (a = false ∧ b = false ∧ c = false ∧ d = false ∧ e = false ∧ f = false ∧ g = false ∧ h = false ∧ i = false ∧ j = true) ∨ (a = false ∧ b = false ∧ c = false ∧ d = false ∧ e = false ∧ f = false ∧ g = false ∧ h = false ∧ i = false ∧ j = false ∧ k = true) ∨ (a = false ∧ b = false ∧ c = false ∧ d = false ∧ e = false ∧ f = false ∧ g = false ∧ h = false ∧ i = false ∧ j = false ∧ k = false ∧ l = true) ∨ (a = false ∧ b = false ∧ c = false ∧ d = false ∧ e = false ∧ f = false ∧ g = false ∧ h = false ∧ i = false ∧ j = false ∧ k = false ∧ l = false) := by
  cases a
  rotate_left
  · exact .inl rfl
  · rcases cho11 b c d e f g h i j k l with h | h | h | h | h | h | h | h | h | h | h | h
    · exact .inr (.inl ⟨rfl, h⟩)
    · exact .inr (.inr (.inl ⟨rfl, h⟩))
    · exact .inr (.inr (.inr (.inl ⟨rfl, h⟩)))
    · exact .inr (.inr (.inr (.inr (.inl ⟨rfl, h⟩))))
    · exact .inr (.inr (.inr (.inr (.inr (.inl ⟨rfl, h⟩)))))
    · exact .inr (.inr (.inr (.inr (.inr (.inr (.inl ⟨rfl, h⟩))))))
    · exact .inr (.inr (.inr (.inr (.inr (.inr (.inr (.inl ⟨rfl, h⟩)))))))
    · exact .inr (.inr (.inr (.inr (.inr (.inr (.inr (.inr (.inl ⟨rfl, h⟩))))))))
    · exact .inr (.inr (.inr (.inr (.inr (.inr (.inr (.inr (.inr (.inl ⟨rfl, h⟩)))))))))
    · exact .inr (.inr (.inr (.inr (.inr (.inr (.inr (.inr (.inr (.inr (.inl ⟨rfl, h⟩))))))))))
    · exact .inr (.inr (.inr (.inr (.inr (.inr (.inr (.inr (.inr (.inr (.inr (.inl ⟨rfl, h⟩)))))))))))
    · exact .inr (.inr (.inr (.inr (.inr (.inr (.inr (.inr (.inr (.inr (.inr (.inr ⟨rfl, h⟩)))))))))))
theorem cho13 (a b c d e f g h i j k l m : Bool) : (a = true) ∨ (a = false ∧ b = true) ∨ (a = false ∧ b = false ∧ c = true) ∨ (a = false ∧ b = false ∧ c = false ∧ d = true) ∨ (a = false ∧ b = false ∧ c = false ∧ d = false ∧ e = true) ∨ (a = false ∧ b = false ∧ c = false ∧ d = false ∧ e = false ∧ f = true) ∨ (a = false ∧ b = false ∧ c = false ∧ d = false ∧ e = false ∧ f = false ∧ g = true) ∨ (a = false ∧ b = false ∧ c = false ∧ d = false ∧ e = false ∧ f = false ∧ g = false ∧ h = true) ∨ (a = false ∧ b = false ∧ c = false ∧ d = false ∧ e = false ∧ f = false ∧ g = false ∧ h = false ∧ i = true) ∨ (a = false ∧ b = false ∧ c = false ∧ d = false ∧ e = false ∧ f = false ∧ g = false ∧ h = false ∧ i = false ∧ j = true) ∨ (a = false ∧ b = false ∧ c = false ∧ d = false ∧ e = false ∧ f = false ∧ g = false ∧ h = false ∧ i = false ∧ j = false ∧ k = true) ∨ (a = false ∧ b = false ∧ c = false ∧ d = false ∧ e = false ∧ f = false ∧ g = false ∧ h = false ∧ i = false ∧ j = false ∧ k = false ∧ l = true) ∨ (a = false ∧ b = false ∧ c = false ∧ d = false ∧ e = false ∧ f = false ∧ g = false ∧ h = false ∧ i = false ∧ j = false ∧ k = false ∧ l = false ∧ m = true) ∨ (a = false ∧ b = false ∧ c = false ∧ d = false ∧ e = false ∧ f = false ∧ g = false ∧ h = false ∧ i = false ∧ j = false ∧ k = false ∧ l = false ∧ m = false) := by
  cases a
  rotate_left
  · exact .inl rfl
  · rcases cho12 b c d e f g h i j k l m with h | h | h | h | h | h | h | h | h | h | h | h | h
    · exact .inr (.inl ⟨rfl, h⟩)
    · exact .inr (.inr (.inl ⟨rfl, h⟩))
    · exact .inr (.inr (.inr (.inl ⟨rfl, h⟩)))
    · exact .inr (.inr (.inr (.inr (.inl ⟨rfl, h⟩))))
    · exact .inr (.inr (.inr (.inr (.inr (.inl ⟨rfl, h⟩)))))
    · exact .inr (.inr (.inr (.inr (.inr (.inr (.inl ⟨rfl, h⟩))))))
    · exact .inr (.inr (.inr (.inr (.inr (.inr (.inr (.inl ⟨rfl, h⟩)))))))
    · exact .inr (.inr (.inr (.inr (.inr (.inr (.inr (.inr (.inl ⟨rfl, h⟩))))))))
    · exact .inr (.inr (.inr (.inr (.inr (.inr (.inr (.inr (.inr (.inl ⟨rfl, h⟩)))))))))
    · exact .inr (.inr (.inr (.inr (.inr (.inr (.inr (.inr (.inr (.inr (.inl ⟨rfl, h⟩))))))))))
    · exact .inr (.inr (.inr (.inr (.inr (.inr (.inr (.inr (.inr (.inr (.inr (.inl ⟨rfl, h⟩)))))))))))
    · exact .inr (.inr (.inr (.inr (.inr (.inr (.inr (.inr (.inr (.inr (.inr (.inr (.inl ⟨rfl, h⟩))))))))))))
    · exact .inr (.inr (.inr (.inr (.inr (.inr (.inr (.inr (.inr (.inr (.inr (.inr (.inr ⟨rfl, h⟩))))))))))))
theorem cho14 (a b c d e f g h i j k l m n : Bool) : (a = true) ∨ (a = false ∧ b = true) ∨ (a = false ∧ b = false ∧ c = true) ∨ (a = false ∧ b = false ∧ c = false ∧ d = true) ∨ (a = false ∧ b = false ∧ c = false ∧ d = false ∧ e = true) ∨ (a = false ∧ b = false ∧ c = false ∧ d = false ∧ e = false ∧ f = true) ∨ (a = false ∧ b = false ∧ c = false ∧ d = false ∧ e = false ∧ f = false ∧ g = true) ∨ (a = false ∧ b = false ∧ c = false ∧ d = false ∧ e = false ∧ f = false ∧ g = false ∧ h = true) ∨ (a = false ∧ b = false ∧ c = false ∧ d = false ∧ e = false ∧ f = false ∧ g = false ∧ h = false ∧ i = true) ∨ (a = false ∧ b = false ∧ c = false ∧ d = false ∧ e = false ∧ f = false ∧ g = false ∧ h = false ∧ i = false ∧ j = true) ∨ (a = false ∧ b = false ∧ c = false ∧ d = false ∧ e = false ∧ f = false ∧ g = false ∧ h = false ∧ i = false ∧ j = false ∧ k = true) ∨ (a = false ∧ b = false ∧ c = false ∧ d = false ∧ e = false ∧ f = false ∧ g = false ∧ h = false ∧ i = false ∧ j = false ∧ k = false ∧ l = true) ∨ (a = false ∧ b = false ∧ c = false ∧ d = false ∧ e = false ∧ f = false ∧ g = false ∧ h = false ∧ i = false ∧ j = false ∧ k = false ∧ l = false ∧ m = true) ∨ (a = false ∧ b = false ∧ c = false ∧ d = false ∧ e = false ∧ f = false ∧ g = false ∧ h = false ∧ i = false ∧ j = false ∧ k = false ∧ l = false ∧ m = false ∧ n = true) ∨ (a = false ∧ b = false ∧ c = false ∧ d = false ∧ e = false ∧ f = false ∧ g = false ∧ h = false ∧ i = false ∧ j = false ∧ k = false ∧ l = false ∧ m = false ∧ n = false) := by
  cases a
  rotate_left
  · exact .inl rfl
  · rcases cho13 b c d e f g h i j k l m n with h | h | h | h | h | h | h | h | h | h | h | h | h | h
    · exact .inr (.inl ⟨rfl, h⟩)
    · exact .inr (.inr (.inl ⟨rfl, h⟩))
    · exact .inr (.inr (.inr (.inl ⟨rfl, h⟩)))
    · exact .inr (.inr (.inr (.inr (.inl ⟨rfl, h⟩))))
    · exact .inr (.inr (.inr (.inr (.inr (.inl ⟨rfl, h⟩)))))
    · exact .inr (.inr (.inr (.inr (.inr (.inr (.inl ⟨rfl, h⟩))))))
    · exact .inr (.inr (.inr (.inr (.inr (.inr (.inr (.inl ⟨rfl, h⟩)))))))
    · exact .inr (.inr (.inr (.inr (.inr (.inr (.inr (.inr (.inl ⟨rfl, h⟩))))))))
    · exact .inr (.inr (.inr (.inr (.inr (.inr (.inr (.inr (.inr (.inl ⟨rfl, h⟩)))))))))
    · exact .inr (.inr (.inr (.inr (.inr (.inr (.inr (.inr (.inr (.inr (.inl ⟨rfl, h⟩))))))))))
    · exact .inr (.inr (.inr (.inr (.inr (.inr (.inr (.inr (.inr (.inr (.inr (.inl ⟨rfl, h⟩)))))))))))
    · exact .inr (.inr (.inr (.inr (.inr (.inr (.inr (.inr (.inr (.inr (.inr (.inr (.inl ⟨rfl, h⟩))))))))))))
    · exact .inr (.inr (.inr (.inr (.inr (.inr (.inr (.inr (.inr (.inr (.inr (.inr (.inr (.inl ⟨rfl, h⟩)))))))))))))
    · exact .inr (.inr (.inr (.inr (.inr (.inr (.inr (.inr (.inr (.inr (.inr (.inr (.inr (.inr ⟨rfl, h⟩)))))))))))))
end Go.Proofs.YtiieakndjheknaaDoor
