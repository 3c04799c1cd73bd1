/-
  MEMORY WORDS: a slice of bytes that reads as a list; a slice of bytes that the call itself made; append and make on it. No program in sight but for the type numbers.
-/
import Derived.Test.YtanpglhpmfdnmaaRows
import Derived.WalkKit
import Derived.WalkSpells
import Derived.WalkLawsBesides
import Derived.Maps.AppendAt
import Derived.Deep.AppendLies
import Derived.Deep.Draws
import Derived.Lib.Hide
import Derived.ProofKit
import Derived.OpenShut
import Derived.ShutString
import Derived.ChangeOld
import Derived.Lib.AppendStr
import Derived.Laws.BitsAllLaws
import Derived.Deep.QuietTactic
import Derived.BigQuiet
import Derived.Deep.DeepMust
import Derived.Lib.SlBytesConst
namespace Go.Proofs.Ytanpglhpmfdnmaa
open Go.RowKit

/-- the value of a byte's cell -/
def bvs (l : List UInt8) : List Value := l.map fun c => Value.int .u8 (c.toNat : Int)
theorem bvs_length (l : List UInt8) : (bvs l).length = l.length := by simp [bvs]
theorem bvs_append (l m : List UInt8) : bvs (l ++ m) = bvs l ++ bvs m := by simp [bvs]
theorem bvs_one (l : List UInt8) : ∀ u ∈ bvs l, u.oneCell' = true := by
  intro u hu
  obtain ⟨c, _, rfl⟩ := List.mem_map.1 hu
  rfl
theorem bvs_get (l : List UInt8) (i : Nat) (h : i < l.length) : (bvs l)[i]? = some (.int .u8 (l[i].toNat : Int)) := by simp [bvs, h]

/-- a slice at A with as many elements as l has reads as l -/
def Rd (w : World) (A : Option Addr) (l : List UInt8) : Prop :=
  l ≠ [] → ∃ b o, A = some ⟨b, o, none⟩ ∧ ∀ (i : Nat) (h : i < l.length), w.cell? ⟨b, o + i, none⟩ = some (.int .u8 (l[i].toNat : Int))

theorem Rd.nil (w : World) (A : Option Addr) : Rd w A [] := fun h => absurd rfl h
theorem Rd.at_ {w : World} {A : Option Addr} {l : List UInt8} (h : Rd w A l) {k : Nat} (hk : k < l.length) :
    ∃ b o, A = some ⟨b, o, none⟩ ∧ ∀ (i : Nat) (h : i < l.length), w.cell? ⟨b, o + i, none⟩ = some (.int .u8 (l[i].toNat : Int)) :=
  h (fun e => by subst e; simp at hk)
theorem Rd.keep {w w' : World} {A : Option Addr} {l : List UInt8} (h : Rd w A l) (hk : ∀ b o, b < w.heap.size → w'.cell? ⟨b, o, none⟩ = w.cell? ⟨b, o, none⟩) : Rd w' A l := by
  intro hn
  obtain ⟨b, o, e, hc⟩ := h hn
  refine ⟨b, o, e, fun i hi => ?_⟩
  rw [hk b _ (World.block_lt_of_cell? w _ (hc i hi))]
  exact hc i hi
theorem Rd.below {w w' : World} {A : Option Addr} {l : List UInt8} (h : Rd w A l) (hb : Below w.heap.size w w') : Rd w' A l :=
  h.keep fun b o hlt => hb.cell (p := ⟨b, o, none⟩) hlt
theorem Rd.drew {w : World} {A : Option Addr} {l : List UInt8} (h : Rd w A l) : Rd w.drew A l := h
theorem Rd.alloc {w : World} {A : Option Addr} {l : List UInt8} (h : Rd w A l) (o : Obj) : Rd (w.alloc o) A l :=
  h.keep fun b k hlt => World.cell?_alloc_lt w o ⟨b, k, none⟩ hlt
/-- a part of it -/
theorem Rd.cut {w : World} {A : Option Addr} {l : List UInt8} (h : Rd w A l) (b o k n : Nat) (hA : A = some ⟨b, o, none⟩) (hk : k + n ≤ l.length) :
    Rd w (some ⟨b, o + k, none⟩) ((l.drop k).take n) := by
  intro hn
  refine ⟨b, o + k, rfl, fun i hi => ?_⟩
  simp only [List.length_take, List.length_drop] at hi
  obtain ⟨b', o', e, hc⟩ := h.at_ (k := k + i) (by omega)
  rw [hA] at e
  injection e with e
  injection e with e1 e2
  subst e1 e2
  have := hc (k + i) (by omega)
  rw [Nat.add_assoc, this]
  simp [List.getElem_take, List.getElem_drop]

theorem Rd.take {w : World} {A : Option Addr} {l : List UInt8} (h : Rd w A l) (n : Nat) : Rd w A (l.take n) := by
  intro hn
  obtain ⟨b, o, e, hc⟩ := h (fun e => by subst e; simp at hn)
  refine ⟨b, o, e, fun i hi => ?_⟩
  rw [List.getElem_take]
  exact hc i (by simp at hi; omega)
theorem Rd.slice {w : World} {A : Option Addr} {l : List UInt8} (h : Rd w A l) (k n c : Nat) (hk : k + n ≤ l.length) (hc : l.length ≤ c) :
    Rd w (if c = k then A else A.map (·.add k)) ((l.drop k).take n) := by
  by_cases hn : n = 0
  · subst hn
    simpa using Rd.nil w _
  · rw [if_neg (by omega)]
    obtain ⟨b, o, rfl, _⟩ := h.at_ (k := k) (by omega)
    have := h.cut b o k n rfl hk
    simpa [Addr.add_lit] using this
theorem Rd.slice_eq {w : World} {A : Option Addr} {l : List UInt8} (h : Rd w A l) (k n c : Nat) (hk : k + n ≤ l.length) (hc : l.length ≤ c) (e : c = k) : Rd w A ((l.drop k).take n) := by
  have := h.slice k n c hk hc
  rwa [if_pos e] at this
theorem Rd.slice_ne {w : World} {A : Option Addr} {l : List UInt8} (h : Rd w A l) (k n c : Nat) (hk : k + n ≤ l.length) (hc : l.length ≤ c) (e : ¬ c = k) : Rd w (A.map fun x => x.add k) ((l.drop k).take n) := by
  have := h.slice k n c hk hc
  rwa [if_neg e] at this

/-- a slice of bytes that the call itself made, in blocks from 'base' on -/
def Own (w : World) (base : Nat) (A : Option Addr) (c : Nat) (l : List UInt8) : Prop :=
  w.ownsRow base 5 1 (.slice A l.length c) l.length (bvs l)

theorem Own.none_ (w : World) (base : Nat) : Own w base none 0 [] := World.ownsRow_nil w base _ _
theorem Own.rd {w : World} {base : Nat} {A : Option Addr} {c : Nat} {l : List UInt8} (h : Own w base A c l) : Rd w A l := by
  intro hn
  have hpos : 0 < l.length := List.length_pos_iff.2 hn
  obtain ⟨g, cap, hv, _, _⟩ := World.ownsRow.form h hpos
  injection hv with hA
  subst hA
  refine ⟨g, 0, rfl, fun i hi => ?_⟩
  have := World.ownsRow.cells h (g := g) rfl i _ (bvs_get l i hi)
  rwa [Addr.add_lit] at this
theorem Own.form {w : World} {base : Nat} {A : Option Addr} {c : Nat} {l : List UInt8} (h : Own w base A c l) :
    (A = none ∧ c = 0 ∧ l = []) ∨ ∃ g, A = some ⟨g, 0, none⟩ ∧ base ≤ g ∧ g < w.heap.size ∧ l.length ≤ c ∧ c ≤ maxLen := by
  rcases h.2 with ⟨hv, hn⟩ | ⟨g, cap, cur, hv, hb, hg, hnc, hcm, _, _⟩
  · injection hv with h1 h2 h3
    exact .inl ⟨h1, h3, List.eq_nil_of_length_eq_zero h2⟩
  · injection hv with h1 h2 h3
    subst h1 h3
    exact .inr ⟨g, rfl, hb, (Array.getElem?_eq_some_iff.1 hg).1, hnc, hcm⟩
theorem Own.caps {w : World} {base : Nat} {A : Option Addr} {c : Nat} {l : List UInt8} (h : Own w base A c l) : l.length ≤ c ∧ c ≤ maxLen := by
  rcases h.form with ⟨_, rfl, rfl⟩ | ⟨_, _, _, _, h1, h2⟩
  · exact ⟨Nat.le_refl _, Nat.zero_le _⟩
  · exact ⟨h1, h2⟩
theorem Own.mono {w : World} {base base' : Nat} {A : Option Addr} {c : Nat} {l : List UInt8} (h : Own w base A c l) (hb : base' ≤ base) : Own w base' A c l := by
  refine ⟨h.1, ?_⟩
  rcases h.2 with hn | ⟨g, cap, cur, hv, hbb, r⟩
  · exact .inl hn
  · exact .inr ⟨g, cap, cur, hv, by omega, r⟩
theorem Own.block {w w' : World} {base : Nat} {A : Option Addr} {c : Nat} {l : List UInt8} (h : Own w base A c l) (hk : ∀ k, k < w.heap.size → w'.heap[k]? = w.heap[k]?) : Own w' base A c l := by
  refine ⟨h.1, ?_⟩
  rcases h.2 with hn | ⟨g, cap, cur, hv, hbb, hg, r⟩
  · exact .inl hn
  · exact .inr ⟨g, cap, cur, hv, hbb, (hk g (Array.getElem?_eq_some_iff.1 hg).1).trans hg, r⟩
theorem Own.below {w w' : World} {base : Nat} {A : Option Addr} {c : Nat} {l : List UInt8} (h : Own w base A c l) (hb : Below w.heap.size w w') : Own w' base A c l := h.block hb.block
theorem Own.drew {w : World} {base : Nat} {A : Option Addr} {c : Nat} {l : List UInt8} (h : Own w base A c l) : Own w.drew base A c l := h
theorem Own.alloc {w : World} {base : Nat} {A : Option Addr} {c : Nat} {l : List UInt8} (h : Own w base A c l) (o : Obj) : Own (w.alloc o) base A c l := World.ownsRow.alloc h o

theorem Own.cell {w : World} {base g : Nat} {c : Nat} {l : List UInt8} (h : Own w base (some ⟨g, 0, none⟩) c l) (i : Nat) (hi : i < l.length) :
    w.cell? ⟨g, i, none⟩ = some (.int .u8 (l[i].toNat : Int)) := by
  rw [World.ownsRow.cellAt h i (by simpa using hi)]
  exact bvs_get l i hi
theorem Own.frozen {w : World} {base g : Nat} {c : Nat} {l : List UInt8} (h : Own w base (some ⟨g, 0, none⟩) c l) (i : Nat) : w.frozen? ⟨g, i, none⟩ = false :=
  World.ownsRow.frozenAt h i
theorem Own.set {w : World} {base g : Nat} {c : Nat} {l : List UInt8} (h : Own w base (some ⟨g, 0, none⟩) c l) (i : Nat) (x : UInt8) :
    Own (w.setCell ⟨g, i, none⟩ (.int .u8 (x.toNat : Int))) base (some ⟨g, 0, none⟩) c (l.set i x) := by
  have := (World.ownsRow.stored h i (.int .u8 (x.toNat : Int))).1
  unfold Own
  rw [List.length_set]
  have e : bvs (l.set i x) = (bvs l).set i (.int .u8 (x.toNat : Int)) := by simp [bvs, List.map_set]
  rw [e]
  exact this
theorem byte_succ (x : UInt8) : ((x.toNat : Int) + 1) % 256 = ((x + 1).toNat : Int) := by
  rw [UInt8.toNat_add]
  simp
theorem Own.kept {w w' : World} {base : Nat} {A : Option Addr} {c : Nat} {l : List UInt8} {row : Option Nat} (h : Own w base A c l) (hg : w.grownBy w' row) (hne : ∀ a, A = some a → row ≠ some a.block) : Own w' base A c l := by
  refine World.ownsRow.kept h hg ?_
  cases A with
  | none => exact .inl rfl
  | some a => exact .inr (fun e => hne a rfl e.symm)

/-- only a block that lies below its own base was written -/
theorem Own.aside {w w' : World} {base g : Nat} {A : Option Addr} {c : Nat} {l : List UInt8} (h : Own w base A c l) (hg : w.grownBy w' (some g)) (hlt : g < base) : Own w' base A c l := by
  refine h.kept hg fun a ha e => ?_
  injection e with e
  rcases h.form with ⟨h1, _⟩ | ⟨g', h1, h2, _⟩
  · rw [h1] at ha; cases ha
  · rw [h1] at ha; cases ha; simp at e; omega

theorem run_append_of_nil {P : Program} (w : World) (base : Nat) (t ty e : TypeId) (i : TypeInfo) (size : Nat) (ht : P.underlying t = some (.slice e)) (hi : P.info? e = some i)
    (v : Value) (n : Nat) (xs : List Value) (hown : w.ownsRow base e size v n xs) (c : Nat) : (Builtin.append_ #[t, t] ty #[v, .slice none 0 c]).run P w = .ok v w := by
  rcases hown.2 with ⟨rfl, rfl⟩ | ⟨g, cap, cur, rfl, _, _, hnc, _⟩
  · simp [Builtin.append_, run_underlying ht, sizeOf, typeInfo, hi, Builtin.lenOf, Builtin.firstCells]
  · simp [Builtin.append_, run_underlying ht, sizeOf, typeInfo, hi, Builtin.lenOf, Builtin.firstCells, hnc, storeCells]

theorem u8_info : (Try.prog.info? 5).map (fun i => (i.zero, i.size, i.bytes)) = some (some (.int .u8 0), 1, 1) := by kernel_rfl
theorem u8_slice : Try.prog.underlying 22 = some (.slice 5) := Try.underlying22

theorem le_maxLen : 140737488355328 ≤ maxLen := by unfold maxLen; omega

theorem run_append_bytes (w : World) (ty : TypeId) (base : Nat) (A : Option Addr) (n c : Nat) (l : List UInt8) (hn : n = l.length) (hown : Own w base A c l)
    (A2 : Option Addr) (m c2 : Nat) (news : List UInt8) (hm : m = news.length) (hr : Rd w A2 news) (hlen : l.length + news.length ≤ 140737488355328) (hbase : base ≤ w.heap.size) :
    ∃ A' c' w', (Builtin.append_ #[22, 22] ty #[.slice A n c, .slice A2 m c2]).run Try.prog w = .ok (.slice A' (l ++ news).length c') w' ∧
      Own w' base A' c' (l ++ news) ∧ Below base w w' ∧ w.grownBy w' (Value.slice A n c).ownBlock := by
  subst hn hm
  obtain ⟨i, hi, hz0, hz1, hz2⟩ := info_parts u8_info
  rcases news with _ | ⟨x, xs⟩
  · cases A2 with
    | none =>
      refine ⟨A, c, w, ?_, by simpa using hown, Below.refl _ _, World.grownBy.refl _ _⟩
      have := run_append_of_nil (P := Try.prog) w base 22 ty _ i 1 u8_slice hi _ _ _ hown c2
      simpa using this
    | some ad =>
      obtain ⟨v', w', hrun, h2, h3, _⟩ := run_append_own (P := Try.prog) w base 22 ty _ i _ 1 1 u8_slice hi hz0 hz1 hz2 rfl (by omega) _ _ _ hown ad 0 c2 [] rfl (by simp) (by simp) (by have := le_maxLen; simp at hlen; omega) (by simp at hlen; omega) hbase
      have hv : ∃ A' c', v' = .slice A' l.length c' := by
        rcases h2.2 with ⟨hv, hn⟩ | ⟨g, cap, cur, hv, _⟩
        · exact ⟨none, 0, by rw [hv, show l.length = 0 by simpa using hn]⟩
        · exact ⟨_, _, hv⟩
      obtain ⟨A', c', rfl⟩ := hv
      refine ⟨A', c', w', by simpa using hrun, by simpa [Own] using h2, ?_, h3⟩
      exact (Below.refl _ _).grown h3 hbase (fun k hk => (World.ownsRow.lt hown k hk).1)
  · have hne : (x :: xs) ≠ [] := by simp
    obtain ⟨b, o, rfl, hc⟩ := hr hne
    obtain ⟨v', w', hrun, h2, h3, _⟩ := run_append_own (P := Try.prog) w base 22 ty _ i _ 1 1 u8_slice hi hz0 hz1 hz2 rfl (by omega) _ _ _ hown ⟨b, o, none⟩ (x :: xs).length c2 (bvs (x :: xs)) (by simp [bvs])
      (by
        intro j u hu
        have hj : j < (x :: xs).length := by have := (List.getElem?_eq_some_iff.1 hu).1; rwa [bvs_length] at this
        rw [Addr.add_lit, hc j hj, ← hu, bvs_get _ _ hj])
      (bvs_one _) (by have := le_maxLen; omega) (by omega) hbase
    have hv : ∃ A' c', v' = .slice A' (l ++ x :: xs).length c' := by
      rw [List.length_append]
      rcases h2.2 with ⟨hv, hn⟩ | ⟨g, cap, cur, hv, _⟩
      · exact ⟨none, 0, by rw [hv, hn]⟩
      · exact ⟨_, _, hv⟩
    obtain ⟨A', c', rfl⟩ := hv
    refine ⟨A', c', w', hrun, ?_, ?_, h3⟩
    · unfold Own
      rw [bvs_append, List.length_append] 
      rw [List.length_append] at h2
      exact h2
    · exact (Below.refl _ _).grown h3 hbase (fun k hk => (World.ownsRow.lt hown k hk).1)

theorem wpList_make_bytes {ops : Array Oper} {rest : List Oper} {o : Oper} {a : Act} {Q : Exit → Act → World → Prop} (w : World) (hg : o.guard = none) (l c : Operand) (hop : o.op = Op.makeSlice 22 l c)
    (base : Nat) (kl kc : IntKind) (L C : Int) (n : Nat) (hl : a.eval l = .int kl L) (hc : a.eval c = .int kc C) (hL : L = (n : Int)) (hC : C = (n : Int)) (b2 : n ≤ 140737488355328) (b4 : base ≤ w.heap.size)
    (hK : ∀ w', Own w' base (some ⟨w.heap.size, 0, none⟩) n (List.replicate n 0) → Below w.heap.size w w' → w'.heap.size = w.heap.size + 1 → wpList Try.prog ops Q rest (a.put o.dst (.slice (some ⟨w.heap.size, 0, none⟩) n n)) w') :
    wpList Try.prog ops Q (o :: rest) a w := by
  obtain ⟨i, hi, hz0, hz1, hz2⟩ := info_parts u8_info
  have b2' : i.bytes * n ≤ 281474976710656 := by rw [hz2]; omega
  have b3' : n ≤ 9223372036854775807 := by omega
  refine wpList_plain hg fun K hK' => ?_
  have hb' : (i.bytes : Int) * (n : Int) ≤ 281474976710656 := by
    have h : ((i.bytes * n : Nat) : Int) ≤ 281474976710656 := by omega
    rwa [Int.natCast_mul] at h
  have hr := run_make (P := Try.prog) w _ _ i _ u8_slice hi hz0 kl kc n n (by omega) (by omega) hb' (by omega)
  simp only [Int.toNat_natCast] at hr
  subst hL hC
  have hown : Own (w.alloc (.cells (madeCells (Value.int .u8 0).cells (n * i.size)) 5)) base (some ⟨w.heap.size, 0, none⟩) n (List.replicate n 0) := by
    unfold Own
    rw [hz1, Nat.mul_one, List.length_replicate]
    have h1 := World.ownsRow_lit (base := base) (e := 5) (size := 1) w (madeCells (Value.int .u8 0).cells n) n b4 (by unfold maxLen; omega) (by simp [size_madeCells])
    have e : (madeCells (Value.int .u8 0).cells n).toList = bvs (List.replicate n 0) := by
      rw [show (Value.int .u8 0).cells = #[Value.int .u8 0] from rfl, toList_madeCells_one]
      simp [bvs]
    rwa [e] at h1
  unfold Oper.wp
  simp [execOp, hop, hl, hc, hr, Result.andThen]
  exact hK' _ _ (hK _ hown ((Below.refl _ _).alloc (Nat.le_refl _) _) (by simp))

theorem wpList_append_bytes {ops : Array Oper} {rest : List Oper} {o : Oper} {a : Act} {Q : Exit → Act → World → Prop} (w : World) (hgd : o.guard = none) (s x : Operand)
    (ho : o.op = .call { callee := .builtin .append, args := #[s, x], argTypes := #[22, 22] })
    (base : Nat) (A : Option Addr) (n c : Nat) (l : List UInt8) (hs : a.eval s = .slice A n c) (hn : n = l.length) (hown : Own w base A c l)
    (A2 : Option Addr) (m c2 : Nat) (news : List UInt8) (hx : a.eval x = .slice A2 m c2) (hm : m = news.length) (hr : Rd w A2 news) (hlen : l.length + news.length ≤ 140737488355328) (hbase : base ≤ w.heap.size)
    (h : ∀ A' c' w', Own w' base A' c' (l ++ news) → Below base w w' → w.grownBy w' (Value.slice A n c).ownBlock → wpList Try.prog ops Q rest (a.put o.dst (.slice A' (l ++ news).length c')) w') : wpList Try.prog ops Q (o :: rest) a w := by
  refine wpList_plain hgd fun _ hK => ?_
  obtain ⟨A', c', w', hrun, h2, h3, h4⟩ := run_append_bytes w o.type base A n c l hn hown A2 m c2 news hm hr hlen hbase
  unfold Oper.wp execOp
  simp only [ho, resolve, invoke, builtin, Sem.run_bind, Sem.run_pure, Result.andThen_ok, List.map_toArray, List.map_cons, List.map_nil, hs, hx, hrun]
  exact hK _ _ (h A' c' w' h2 h3 h4)

/-- a string's bytes -/
theorem strCells_bvs (s : ByteArray) : Go.Lib.strCells s = bvs s.data.toList := rfl
theorem wpList_append_str {ops : Array Oper} {rest : List Oper} {o : Oper} {a : Act} {Q : Exit → Act → World → Prop} (w : World) (hgd : o.guard = none) (s x : Operand)
    (ho : o.op = .call { callee := .builtin .append, args := #[s, x], argTypes := #[22, 9] })
    (base : Nat) (A : Option Addr) (n c : Nat) (l : List UInt8) (hs : a.eval s = .slice A n c) (hn : n = l.length) (hown : Own w base A c l)
    (t : ByteArray) (hx : a.eval x = .string t) (hlen : l.length + t.data.toList.length ≤ 140737488355328) (hbase : base ≤ w.heap.size)
    (h : ∀ A' c' w', Own w' base A' c' (l ++ t.data.toList) → Below base w w' → wpList Try.prog ops Q rest (a.put o.dst (.slice A' (l ++ t.data.toList).length c')) w') : wpList Try.prog ops Q (o :: rest) a w := by
  obtain ⟨i, hi, hz0, hz1, hz2⟩ := info_parts u8_info
  subst hn
  have ht : t.size = t.data.toList.length := (Array.length_toList (xs := t.data)).symm
  refine Go.Lib.wpList_append_own_string (P := Try.prog) w hgd s x _ _ ho base 5 i u8_slice Try.underlying9 hi hz0 hz1 hz2 _ _ _ hs hown t hx (by have := le_maxLen; omega) (by omega) hbase ?_
  intro v' w' h2 h3 _
  rw [strCells_bvs, ← bvs_append, ht, ← List.length_append] at h2
  have hv : ∃ A' c', v' = .slice A' (l ++ t.data.toList).length c' := by
    rcases h2.2 with ⟨hv, hn⟩ | ⟨g, cap, cur, hv, _⟩
    · exact ⟨none, 0, by rw [hv, hn]⟩
    · exact ⟨_, _, hv⟩
  obtain ⟨A', c', rfl⟩ := hv
  exact h A' c' w' h2 ((Below.refl _ _).grown h3 hbase (fun k hk => (World.ownsRow.lt hown k hk).1))

theorem run_convert_str (w : World) (A : Option Addr) (n c : Nat) (l : List UInt8) (hn : n = l.length) (hr : Rd w A l) :
    (convert 22 9 (.slice A n c)).run Try.prog w = .ok (.string ⟨l.toArray⟩) w := by
  subst hn
  have base : ∀ a : Addr, (∀ j (hj : j < l.length), w.cell? (a.add j) = some (.int .u8 (l[j].toNat : Int))) →
      (convert 22 9 (.slice (some a) l.length c)).run Try.prog w = .ok (.string ⟨l.toArray⟩) w := fun a hc =>
    run_convert_bytes_back (P := Try.prog) w _ _ 5 a c l u8_slice Try.underlying5 Try.underlying9 hc
  cases A with
  | none =>
    cases l with
    | nil =>
      show (convert 22 9 (.slice none 0 c)).run Try.prog w = _
      rw [run_convert_bytes_string w _ _ 5 none 0 c u8_slice Try.underlying5 Try.underlying9]
      simp [Conv.bytesToString]
      rfl
    | cons x xs =>
      obtain ⟨b, o, e, _⟩ := hr (by simp)
      cases e
  | some a =>
    refine base a fun j hj => ?_
    obtain ⟨b, o, e, hc⟩ := hr.at_ hj
    injection e with e
    subst e
    rw [Addr.add_lit]
    exact hc j hj

theorem rd_lit (w : World) (l : List UInt8) (C : Array Value) (hC : C = (bvs l).toArray) : Rd (w.alloc (.cells C 5)) (some ⟨w.heap.size, 0, none⟩) l := by
  intro _
  refine ⟨_, _, rfl, fun i hi => ?_⟩
  have h := heap_alloc_new w (.cells C 5)
  rw [cell_of_row _ _ _ _ _ _ h, hC]
  simp [bvs, hi]
theorem rd_litf (w : World) (l : List UInt8) (C : Array Value) (fr : Nat × Nat) (hC : C = (bvs l).toArray) : Rd (w.alloc (.cells C 5 fr)) (some ⟨w.heap.size, 0, none⟩) l := by
  intro _
  refine ⟨_, _, rfl, fun i hi => ?_⟩
  have h := heap_alloc_new w (.cells C 5 fr)
  rw [cell_of_row _ _ _ _ _ _ h, hC]
  simp [bvs, hi]
theorem own_lit (w : World) (base : Nat) (l : List UInt8) (C : Array Value) (hC : C = (bvs l).toArray) (hb : base ≤ w.heap.size) (hl : l.length ≤ maxLen) (n : Nat) (hn : n = l.length) : Own (w.alloc (.cells C 5)) base (some ⟨w.heap.size, 0, none⟩) n l := by
  subst hC hn
  have := World.ownsRow_lit (base := base) (e := 5) (size := 1) w (bvs l).toArray l.length hb hl (by simp [bvs])
  simpa [Own] using this

/-- a slice of slices of bytes -/
def RdL (w : World) (A : Option Addr) (ls : List (List UInt8)) : Prop :=
  ls ≠ [] → ∃ b o, A = some ⟨b, o, none⟩ ∧ ∀ (i : Nat) (h : i < ls.length), ∃ Ai ci, w.cell? ⟨b, o + i, none⟩ = some (.slice Ai ls[i].length ci) ∧ Rd w Ai ls[i]
theorem RdL.nil (w : World) (A : Option Addr) : RdL w A [] := fun h => absurd rfl h
theorem RdL.at_ {w : World} {A : Option Addr} {ls : List (List UInt8)} (h : RdL w A ls) {k : Nat} (hk : k < ls.length) :
    ∃ b o, A = some ⟨b, o, none⟩ ∧ ∃ Ai ci, w.cell? ⟨b, o + k, none⟩ = some (.slice Ai ls[k].length ci) ∧ Rd w Ai ls[k] := by
  obtain ⟨b, o, e, h⟩ := h (fun e => by subst e; simp at hk)
  exact ⟨b, o, e, h k hk⟩
theorem RdL.below {w w' : World} {A : Option Addr} {ls : List (List UInt8)} (h : RdL w A ls) (hb : Below w.heap.size w w') : RdL w' A ls := by
  intro hn
  obtain ⟨b, o, e, hc⟩ := h hn
  refine ⟨b, o, e, fun i hi => ?_⟩
  obtain ⟨Ai, ci, h1, h2⟩ := hc i hi
  exact ⟨Ai, ci, (hb.cell (p := ⟨b, o + i, none⟩) (World.block_lt_of_cell? w _ h1)).trans h1, h2.below hb⟩

theorem rdl_lit (w : World) (e : TypeId) (vs : List (Option Addr × Nat × List UInt8)) (h : ∀ x ∈ vs, Rd w x.1 x.2.2) :
    RdL (w.alloc (.cells (vs.map fun x => Value.slice x.1 x.2.2.length x.2.1).toArray e)) (some ⟨w.heap.size, 0, none⟩) (vs.map fun x => x.2.2) := by
  intro _
  refine ⟨_, _, rfl, fun i hi => ?_⟩
  have hi' : i < vs.length := by simpa using hi
  refine ⟨vs[i].1, vs[i].2.1, ?_, ?_⟩
  · have h1 := heap_alloc_new w (.cells (vs.map fun x => Value.slice x.1 x.2.2.length x.2.1).toArray e)
    rw [cell_of_row _ _ _ _ _ _ h1]
    simp [hi']
  · simpa using (h _ (List.getElem_mem hi')).alloc _
theorem RdL.drew {w : World} {A : Option Addr} {l : List (List UInt8)} (h : RdL w A l) : RdL w.drew A l := h

theorem ofInt_i64 (a : Nat) (ha : a < 9223372036854775808) : (BitVec.ofInt 64 (a : Int)).toNat = a := by
  rw [BitVec.ofInt_natCast, BitVec.toNat_ofNat]; exact Nat.mod_eq_of_lt (by omega)
theorem i64_or_nat (a b : Nat) (ha : a < 9223372036854775808) (hb : b < 9223372036854775808) : bits .or .i64 (a : Int) (b : Int) = ((a ||| b : Nat) : Int) := by
  have hx : a ||| b < 2 ^ 63 := Nat.or_lt_two_pow (by omega) (by omega)
  show IntKind.i64.wrap ((BitVec.ofInt 64 (a : Int) ||| BitVec.ofInt 64 (b : Int)).toNat : Int) = _
  rw [BitVec.toNat_or, ofInt_i64 a ha, ofInt_i64 b hb, IntKind.wrap_i64]
  omega

theorem ret_int {k : IntKind} {a b : Int} (h : a = b) : Ending.returned (.int k a) = .returned (.int k b) := by rw [h]
theorem ret_bool {a b : Bool} (h : a = b) : Ending.returned (.bool a) = .returned (.bool b) := by rw [h]
/-- one value, nothing that was there is written -/
def RetV (w : World) (v : Value) (e : Ending) (w' : World) : Prop := e = .returned v ∧ Below w.heap.size w w'
/-- new bytes -/
def RetB (w : World) (l : List UInt8) (e : Ending) (w' : World) : Prop := ∃ A c, e = .returned (.slice A l.length c) ∧ Own w' w.heap.size A c l ∧ Below w.heap.size w w'
/-- new bytes and a number -/
def RetBI (w : World) (l : List UInt8) (k : Int) (e : Ending) (w' : World) : Prop :=
  ∃ A c, e = .returned (.tuple #[.slice A l.length c, .int .i64 k]) ∧ Own w' w.heap.size A c l ∧ Below w.heap.size w w'
/-- a part of a slice of bytes that came in, and a number: nothing is written -/
def RetSI (w : World) (l : List UInt8) (k : Int) (e : Ending) (w' : World) : Prop := ∃ A c, e = .returned (.tuple #[.slice A l.length c, .int .i64 k]) ∧ Rd w A l ∧ l.length ≤ c ∧ c ≤ maxLen ∧ w = w'
/-- are lists of bytes the same? -/
def eqB (l m : List UInt8) : Bool := decide (l = m)
abbrev str (l : List UInt8) : Value := .string ⟨l.toArray⟩

theorem bt {w a b : World} (h : Below w.heap.size w a) (k : Below a.heap.size a b) : Below w.heap.size w b := h.trans (k.mono h.size)
theorem bel_trans {B : Nat} {a b c : World} (h : Below B a b) (k : Below b.heap.size b c) (hB : B ≤ b.heap.size) : Below B a c := h.trans (k.mono hB)
end Go.Proofs.Ytanpglhpmfdnmaa
