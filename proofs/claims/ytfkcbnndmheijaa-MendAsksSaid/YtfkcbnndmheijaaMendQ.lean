/-
  THE WALK OF mend.Ask. (Printed by genmendq.py.)
-/
import Derived.Test.YtfkcbnndmheijaaMendP
import Derived.Test.YtfkcbnndmheijaaBlk
import Derived.StillTailTactics
import Derived.Deep.MidRow
namespace Go.Proofs.Ytfkcbnndmheijaa
open Go.RowKit
set_option linter.unusedVariables false

/-- a message that asks: its kind, from whom, to whom, the index, the chunk -/
abbrev Msg := Int × Int × Int × Int × Int
def msgC (m : Msg) : List Value := [.int .u8 m.1, .int .i64 m.2.1, .int .i64 m.2.2.1, .int .i64 0, .int .i64 0, .int .i64 m.2.2.2.1, .int .i64 0, .int .i64 0, .int .i64 m.2.2.2.2, .int .i64 0, .int .i64 0, .int .u8 0, .int .i64 0, .int .i64 0, .int .u8 0, .string { data := #[] }, .string { data := #[] }, .string { data := #[] }, .int .u8 0, .string { data := #[] }, .string { data := #[] }, .string { data := #[] }, .int .i64 0, .bool false, .string { data := #[] }, .slice none 0 0, .slice none 0 0]
theorem msgC_len (m : Msg) : (msgC m).length = 27 := rfl
def OwnM (w : World) (base : Nat) (A : Option Addr) (c : Nat) (ms : List Msg) : Prop := w.ownsRow base 45 27 (.slice A ms.length c) ms.length (ms.map msgC).flatten
theorem OwnM.none_ (w : World) (base : Nat) : OwnM w base none 0 [] := World.ownsRow_nil w base _ _
theorem OwnM.block {w w' : World} {base : Nat} {A : Option Addr} {c : Nat} {l : List Msg} (h : OwnM w base A c l) (hk : ∀ k, base ≤ k → k < w.heap.size → w'.heap[k]? = w.heap[k]?) : OwnM w' base A c l := by
  refine ⟨h.1, ?_⟩
  rcases h.2 with hn | ⟨g, cap, cur, hv, hbb, hg, r⟩
  · exact .inl hn
  · exact .inr ⟨g, cap, cur, hv, hbb, (hk g hbb (Array.getElem?_eq_some_iff.1 hg).1).trans hg, r⟩
theorem OwnM.below {w w' : World} {base : Nat} {A : Option Addr} {c : Nat} {l : List Msg} (h : OwnM w base A c l) (hb : Below w.heap.size w w') : OwnM w' base A c l := h.block fun k _ hk => hb.block k hk
theorem OwnM.alloc {w : World} {base : Nat} {A : Option Addr} {c : Nat} {l : List Msg} (h : OwnM w base A c l) (o : Obj) : OwnM (w.alloc o) base A c l := h.below (bal0 w o)
theorem OwnM.drew {w : World} {base : Nat} {A : Option Addr} {c : Nat} {l : List Msg} (h : OwnM w base A c l) : OwnM w.drew base A c l := h
theorem OwnM.put {w : World} {base : Nat} {A : Option Addr} {c : Nat} {l : List Msg} (h : OwnM w base A c l) {p : Addr} (hp : p.block < base) (u : Value) : OwnM (w.setCell p u) base A c l :=
  h.block fun k hk _ => Below.heap_setCell _ _ _ _ (by omega)
theorem OwnM.mono {w : World} {base base' : Nat} {A : Option Addr} {c : Nat} {l : List Msg} (h : OwnM w base A c l) (hb : base' ≤ base) : OwnM w base' A c l := by
  refine ⟨h.1, ?_⟩
  rcases h.2 with hn | ⟨g, cap, cur, hv, hbb, r⟩
  · exact .inl hn
  · exact .inr ⟨g, cap, cur, hv, by omega, r⟩
theorem flat_get (ms : List Msg) (i j : Nat) (hi : i < ms.length) (hj : j < 27) : ((ms.map msgC).flatten)[i * 27 + j]? = (msgC ms[i])[j]? := by
  induction ms generalizing i with
  | nil => simp at hi
  | cons m t ih =>
    rw [List.map_cons, List.flatten_cons]
    cases i with
    | zero =>
      rw [List.getElem?_append_left (by rw [msgC_len]; omega)]
      simp
    | succ i =>
      rw [List.getElem?_append_right (by rw [msgC_len]; omega), msgC_len, show (i + 1) * 27 + j - 27 = i * 27 + j by omega, ih i (by simpa using hi)]
      simp
/-- cell j of message i -/
theorem OwnM.at_ {w : World} {base : Nat} {A : Option Addr} {c : Nat} {ms : List Msg} (h : OwnM w base A c ms) (hn : 0 < ms.length) :
    ∃ g, A = some ⟨g, 0, none⟩ ∧ base ≤ g ∧ g < w.heap.size ∧ ms.length ≤ c ∧ c ≤ maxLen ∧ ∀ i (hi : i < ms.length) j v, (msgC ms[i])[j]? = some v → w.cell? ⟨g, i * 27 + j, none⟩ = some v := by
  rcases h.2 with ⟨hv, h0⟩ | ⟨g, cap, cur, hv, hbb, hg, hnc, hcm, _, _⟩
  · rw [h0] at hn; omega
  · injection hv with h1 h2 h3
    subst h1 h3
    refine ⟨g, rfl, hbb, (Array.getElem?_eq_some_iff.1 hg).1, hnc, hcm, fun i hi j v hj => ?_⟩
    have hj27 : j < 27 := by have := (List.getElem?_eq_some_iff.1 hj).1; rwa [msgC_len] at this
    rw [← flat_get ms i j hi hj27] at hj
    have := World.ownsRow.cells h (g := g) rfl (i * 27 + j) _ hj
    rwa [Addr.add_lit, Nat.zero_add] at this
theorem OwnM.caps {w : World} {base : Nat} {A : Option Addr} {c : Nat} {ms : List Msg} (h : OwnM w base A c ms) : ms.length ≤ c ∧ c ≤ maxLen := by
  rcases h.2 with ⟨hv, h0⟩ | ⟨g, cap, cur, hv, hbb, hg, hnc, hcm, _, _⟩
  · injection hv with h1 h2 h3
    rw [h0, h3]; exact ⟨Nat.le_refl _, Nat.zero_le _⟩
  · injection hv with h1 h2 h3
    rw [h3]; exact ⟨hnc, hcm⟩
theorem msg_info : (Try.prog.info? 45).map (fun i => (i.zero, i.size, i.bytes)) = some (some (.agg #[.int .u8 0, .int .i64 0, .int .i64 0, .int .i64 0, .int .i64 0, .int .i64 0, .int .i64 0, .int .i64 0, .int .i64 0, .int .i64 0, .int .i64 0, .int .u8 0, .int .i64 0, .int .i64 0, .int .u8 0, .string { data := #[] }, .string { data := #[] }, .string { data := #[] }, .int .u8 0, .string { data := #[] }, .string { data := #[] }, .string { data := #[] }, .int .i64 0, .bool false, .string { data := #[] }, .slice none 0 0, .slice none 0 0]), 27, 304) := by kernel_rfl
theorem msg_one (m : Msg) : ∀ u ∈ msgC m, u.oneCell' = true := by
  intro u hu
  simp only [msgC, List.mem_cons, List.not_mem_nil, or_false] at hu
  rcases hu with rfl | rfl | rfl | rfl | rfl | rfl | rfl | rfl | rfl | rfl | rfl | rfl | rfl | rfl | rfl | rfl | rfl | rfl | rfl | rfl | rfl | rfl | rfl | rfl | rfl | rfl | rfl <;> rfl

theorem wpList_append_msg {ops : Array Oper} {rest : List Oper} {o : Oper} {a : Act} {Q : Exit → Act → World → Prop} (w : World) (hgd : o.guard = none) (s x : Operand)
    (ho : o.op = .call { callee := .builtin .append, args := #[s, x], argTypes := #[28, 28] })
    (base : Nat) (A : Option Addr) (n c : Nat) (ms : List Msg) (hs : a.eval s = .slice A n c) (hn : n = ms.length) (hown : OwnM w base A c ms)
    (g c2 : Nat) (m : Msg) (hx : a.eval x = .slice (some ⟨g, 0, none⟩) 1 c2) (hc : ∀ j v, (msgC m)[j]? = some v → w.cell? ⟨g, j, none⟩ = some v) (hlen : ms.length ≤ 100) (hbase : base ≤ w.heap.size)
    (h : ∀ A' c' w', OwnM w' base A' c' (ms ++ [m]) → Below base w w' → wpList Try.prog ops Q rest (a.put o.dst (.slice A' (n + 1) c')) w') : wpList Try.prog ops Q (o :: rest) a w := by
  obtain ⟨i, hi, hz0, hz1, hz2⟩ := info_parts msg_info
  subst hn
  refine wpList_append_own (P := Try.prog) (w := w) hgd s x _ ho base 45 i _ 27 304 Try.underlying28 hi hz0 hz1 hz2 rfl (by omega) _ _ _ hs hown ⟨g, 0, none⟩ 1 c2 (msgC m) hx (by rw [msgC_len]) ?_ (msg_one m) (by have := le_maxLen; omega) (by omega) hbase ?_
  · intro j u hj
    rw [Addr.add_lit, Nat.zero_add]
    exact hc j u hj
  · intro v' w' h2 h3 _
    have hv : ∃ A' c', v' = .slice A' (ms.length + 1) c' := by
      rcases h2.2 with ⟨hv, hn⟩ | ⟨g, cap, cur, hv, _⟩
      · omega
      · exact ⟨_, _, hv⟩
    obtain ⟨A', c', rfl⟩ := hv
    refine h A' c' w' ?_ ((Below.refl _ _).grown h3 hbase (fun k hk => (World.ownsRow.lt hown k hk).1))
    unfold OwnM
    rw [List.length_append, List.map_append, List.flatten_append]
    simpa using h2

/-- the closure: one message more -/
def RetA (w : World) (O base : Nat) (ms : List Msg) (e : Ending) (w' : World) : Prop :=
  ∃ A c v, e = .returned v ∧ Blk w' O 28 #[.slice A ms.length c] ∧ OwnM w' base A c ms ∧ Below O w w'
set_option maxRecDepth 100000 in
set_option maxHeartbeats 1000000 in
theorem ask1_any (k to ix ch id : Int) (O X base : Nat) (A : Option Addr) (n c : Nat) (ms : List Msg) (w : World) (hO : Blk w O 28 #[.slice A n c]) (hn : n = ms.length) (hown : OwnM w base A c ms) (hX : w.cell? ⟨X, 1, none⟩ = some (.int .i64 id)) (hlen : ms.length ≤ 50) (hb : O < base) (hbs : base ≤ w.heap.size) :
    Calls Try.prog 22 #[.int .u8 k, .int .i64 to, .int .i64 ix, .int .i64 ch, .pointer (some ⟨O, 0, none⟩), .pointer (some ⟨X, 0, none⟩)] w (RetA w O base (ms ++ [(k, id, to, ix, ch)])) := by
  have hc0 := hO.c 0 (.slice A n c) rfl
  have hf0 := hO.frozen
  have h100 : ms.length ≤ 100 := by omega
  have HN := Lib.hid hn
  clear hn
  go_enter Try.func22, Try.ntmps22
  go_wp2_with (at_builtin; refine wpList_append_msg _ rfl _ _ rfl base A n c ms rfl HN.out (hown.alloc _) _ 1 (k, id, to, ix, ch) rfl ?_ h100 ?_ ?_; (intro j v hj; rw [(Blk.new _ _ _).cell j]; simpa [msgC] using hj); (simp; omega); intro A1 c1 w1 hown1 hb1; have hO1 := (hO.alloc (.cells #[.int .u8 k, .int .i64 id, .int .i64 to, .int .i64 0, .int .i64 0, .int .i64 ix, .int .i64 0, .int .i64 0, .int .i64 ch, .int .i64 0, .int .i64 0, .int .u8 0, .int .i64 0, .int .i64 0, .int .u8 0, .string { data := #[] }, .string { data := #[] }, .string { data := #[] }, .int .u8 0, .string { data := #[] }, .string { data := #[] }, .string { data := #[] }, .int .i64 0, .bool false, .string { data := #[] }, .slice none 0 0, .slice none 0 0] 45)).below hb1 hb; have kO := hO1.c 0 (.slice A n c) rfl; have fO := hO1.frozen)
  go_end0
  refine ⟨A1, c1, _, rfl, ?_, ?_, ?_⟩
  · have := hO1.set 0 (.slice A1 (n + 1) c1)
    rw [List.length_append, ← HN.out]
    exact this
  · exact hown1.put (by simpa using hb) _
  · exact ((((Below.refl O w).alloc (by omega) _).trans (hb1.mono (by omega))).setCell (p := ⟨O, 0, none⟩) (Nat.le_refl _) _)

/-- a slice of int that reads as a list -/
def RdI (w : World) (A : Option Addr) (l : List Int) : Prop := l ≠ [] → ∃ b o, A = some ⟨b, o, none⟩ ∧ ∀ (i : Nat) (h : i < l.length), w.cell? ⟨b, o + i, none⟩ = some (.int .i64 l[i])
theorem RdI.below {w w' : World} {A : Option Addr} {l : List Int} (h : RdI w A l) (hb : Below w.heap.size w w') : RdI w' A l := by
  intro hn
  obtain ⟨b, o, e, hc⟩ := h hn
  refine ⟨b, o, e, fun i hi => ?_⟩
  rw [hb.cell (p := ⟨b, o + i, none⟩) (World.block_lt_of_cell? w _ (hc i hi))]
  exact hc i hi
/-- what is asked -/
def askF (P id : Int) (pl : Bool) (sn mi mf mc : Int) (hu : List Int) : List Msg := if mi ≠ 0 then [(12, id, mf, mi, mc)] else if pl = false ∧ hu ≠ [] then [(15, id, P, sn, hu.getD 0 0)] else []
def askS (P id bh : Int) : List Msg := if bh ≠ 0 then [(10, id, P, bh, 0)] else []
def askT (P id t : Int) (pl : Bool) (co : List Int) : List Msg := if pl = false ∧ co ≠ [] then [(14, id, P, co.getD (t % co.length).toNat 0, 0)] else []
def askL (n id t : Int) (pl : Bool) (sn : Int) (hu co : List Int) (bh mi mf mc : Int) : List Msg :=
  if peerB n id t then askF (peerI n id t) id pl sn mi mf mc hu ++ (askS (peerI n id t) id bh ++ askT (peerI n id t) id t pl co) else []
/-- new messages -/
def RetM (w : World) (ms : List Msg) (e : Ending) (w' : World) : Prop := ∃ A c, e = .returned (.slice A ms.length c) ∧ OwnM w' w.heap.size A c ms ∧ Below w.heap.size w w'

set_option maxRecDepth 100000 in
set_option maxHeartbeats 1000000 in
theorem ask_Mp00 (n id t sn bh mi mf mc : Int) (H C : Option Addr) (hc cc : Nat) (hu co : List Int) (w : World) (ht : t ≤ 9223372036854775807) (P : Int) (HP : Hid (peerI n id t = P)) (hP : 0 ≤ P) (hmi : mi ≠ 0) : Calls Try.prog 12 #[.agg #[.int .i64 n, .int .i64 id, .int .i64 t, .bool true, .int .i64 sn, .slice H hu.length hc, .slice C co.length cc, .int .i64 0, .int .i64 mi, .int .i64 mf, .int .i64 mc]] w (RetM w [(12, id, mf, mi, mc)]) := by
  have hP2 : decide (P < 0) = false := decide_eq_false (by omega)
  have gmi : (mi != 0) = true := by rw [bne_iff_ne]; exact hmi
  clear hmi
  go_enter Try.func12, Try.ntmps12
  go_wp2_with fail
  with_reducible refine (peer_any n id t _ ht).mono ?_
  rw [HP.out]
  rintro e w1 ⟨rfl, rfl⟩
  have X0 := (Blk.new w 24 #[.int .i64 n, .int .i64 id, .int .i64 t, .bool true, .int .i64 sn, .slice H hu.length hc, .slice C co.length cc, .int .i64 0, .int .i64 mi, .int .i64 mf, .int .i64 mc]).alloc (.cells #[.slice none 0 0] 28)
  have O0 : Blk ((w.alloc (.cells #[.int .i64 n, .int .i64 id, .int .i64 t, .bool true, .int .i64 sn, .slice H hu.length hc, .slice C co.length cc, .int .i64 0, .int .i64 mi, .int .i64 mf, .int .i64 mc] 24)).alloc (.cells #[.slice none 0 0] 28)) (w.heap.size + 1) 28 #[.slice none 0 0] := Blk.new' _ _ (by simp)
  have own0 : OwnM ((w.alloc (.cells #[.int .i64 n, .int .i64 id, .int .i64 t, .bool true, .int .i64 sn, .slice H hu.length hc, .slice C co.length cc, .int .i64 0, .int .i64 mi, .int .i64 mf, .int .i64 mc] 24)).alloc (.cells #[.slice none 0 0] 28)) (w.heap.size + 2) none 0 [] := OwnM.none_ _ _
  have bb0 : Below w.heap.size w ((w.alloc (.cells #[.int .i64 n, .int .i64 id, .int .i64 t, .bool true, .int .i64 sn, .slice H hu.length hc, .slice C co.length cc, .int .i64 0, .int .i64 mi, .int .i64 mf, .int .i64 mc] 24)).alloc (.cells #[.slice none 0 0] 28)) := bal (bal0 w _) _
  have sz0 : w.heap.size + 2 ≤ ((w.alloc (.cells #[.int .i64 n, .int .i64 id, .int .i64 t, .bool true, .int .i64 sn, .slice H hu.length hc, .slice C co.length cc, .int .i64 0, .int .i64 mi, .int .i64 mf, .int .i64 mc] 24)).alloc (.cells #[.slice none 0 0] 28)).heap.size := by simp
  have i0 := X0.c 1 (.int .i64 id) rfl
  go_wp2_with fail
  have ln0 : Hid (0 = ([] : List Msg).length) := Lib.hid rfl
  have lm0 : Hid (([] : List Msg).length ≤ 50) := Lib.hid (by rw [← ln0.out]; decide)
  with_reducible refine (ask1_any 12 mf mi mc id (w.heap.size + 1) w.heap.size (w.heap.size + 2) none 0 0 [] _ O0 ln0.out own0 i0 lm0.out (by omega) sz0).mono ?_
  rintro e w2 ⟨A1, c1, v1, rfl, hO1, hw1, hb1⟩
  have O1 : Blk w2 (w.heap.size + 1) 28 #[.slice A1 1 c1] := hO1
  have own1 : OwnM w2 (w.heap.size + 2) A1 c1 [(12, id, mf, mi, mc)] := hw1
  have X1 := X0.below hb1 (by omega)
  have bb1 : Below w.heap.size w w2 := bb0.trans (hb1.mono (by omega))
  have sz1 : w.heap.size + 2 ≤ w2.heap.size := Nat.le_trans sz0 hb1.size
  have i1 := X1.c 1 (.int .i64 id) rfl
  have x0 := X1.c 0 (.int .i64 n) rfl
  have x2 := X1.c 2 (.int .i64 t) rfl
  have x3 := X1.c 3 (.bool true) rfl
  have x4 := X1.c 4 (.int .i64 sn) rfl
  have x5 := X1.c 5 (.slice H hu.length hc) rfl
  have x6 := X1.c 6 (.slice C co.length cc) rfl
  have x7 := X1.c 7 (.int .i64 0) rfl
  have x8 := X1.c 8 (.int .i64 mi) rfl
  have x9 := X1.c 9 (.int .i64 mf) rfl
  have x10 := X1.c 10 (.int .i64 mc) rfl
  have oc1 := O1.c 0 (.slice A1 1 c1) rfl
  go_wp2_with fail
  go_ret
  exact ⟨_, _, rfl, own1.mono (by omega), bb1⟩

set_option maxRecDepth 100000 in
set_option maxHeartbeats 1000000 in
theorem ask_Mp10 (n id t sn bh mi mf mc : Int) (H C : Option Addr) (hc cc : Nat) (hu co : List Int) (w : World) (ht : t ≤ 9223372036854775807) (P : Int) (HP : Hid (peerI n id t = P)) (hP : 0 ≤ P) (hmi : mi ≠ 0) (hbh : bh ≠ 0) : Calls Try.prog 12 #[.agg #[.int .i64 n, .int .i64 id, .int .i64 t, .bool true, .int .i64 sn, .slice H hu.length hc, .slice C co.length cc, .int .i64 bh, .int .i64 mi, .int .i64 mf, .int .i64 mc]] w (RetM w [(12, id, mf, mi, mc), (10, id, P, bh, 0)]) := by
  have hP2 : decide (P < 0) = false := decide_eq_false (by omega)
  have gmi : (mi != 0) = true := by rw [bne_iff_ne]; exact hmi
  clear hmi
  have gbh : (bh != 0) = true := by rw [bne_iff_ne]; exact hbh
  clear hbh
  go_enter Try.func12, Try.ntmps12
  go_wp2_with fail
  with_reducible refine (peer_any n id t _ ht).mono ?_
  rw [HP.out]
  rintro e w1 ⟨rfl, rfl⟩
  have X0 := (Blk.new w 24 #[.int .i64 n, .int .i64 id, .int .i64 t, .bool true, .int .i64 sn, .slice H hu.length hc, .slice C co.length cc, .int .i64 bh, .int .i64 mi, .int .i64 mf, .int .i64 mc]).alloc (.cells #[.slice none 0 0] 28)
  have O0 : Blk ((w.alloc (.cells #[.int .i64 n, .int .i64 id, .int .i64 t, .bool true, .int .i64 sn, .slice H hu.length hc, .slice C co.length cc, .int .i64 bh, .int .i64 mi, .int .i64 mf, .int .i64 mc] 24)).alloc (.cells #[.slice none 0 0] 28)) (w.heap.size + 1) 28 #[.slice none 0 0] := Blk.new' _ _ (by simp)
  have own0 : OwnM ((w.alloc (.cells #[.int .i64 n, .int .i64 id, .int .i64 t, .bool true, .int .i64 sn, .slice H hu.length hc, .slice C co.length cc, .int .i64 bh, .int .i64 mi, .int .i64 mf, .int .i64 mc] 24)).alloc (.cells #[.slice none 0 0] 28)) (w.heap.size + 2) none 0 [] := OwnM.none_ _ _
  have bb0 : Below w.heap.size w ((w.alloc (.cells #[.int .i64 n, .int .i64 id, .int .i64 t, .bool true, .int .i64 sn, .slice H hu.length hc, .slice C co.length cc, .int .i64 bh, .int .i64 mi, .int .i64 mf, .int .i64 mc] 24)).alloc (.cells #[.slice none 0 0] 28)) := bal (bal0 w _) _
  have sz0 : w.heap.size + 2 ≤ ((w.alloc (.cells #[.int .i64 n, .int .i64 id, .int .i64 t, .bool true, .int .i64 sn, .slice H hu.length hc, .slice C co.length cc, .int .i64 bh, .int .i64 mi, .int .i64 mf, .int .i64 mc] 24)).alloc (.cells #[.slice none 0 0] 28)).heap.size := by simp
  have i0 := X0.c 1 (.int .i64 id) rfl
  go_wp2_with fail
  have ln0 : Hid (0 = ([] : List Msg).length) := Lib.hid rfl
  have lm0 : Hid (([] : List Msg).length ≤ 50) := Lib.hid (by rw [← ln0.out]; decide)
  with_reducible refine (ask1_any 12 mf mi mc id (w.heap.size + 1) w.heap.size (w.heap.size + 2) none 0 0 [] _ O0 ln0.out own0 i0 lm0.out (by omega) sz0).mono ?_
  rintro e w2 ⟨A1, c1, v1, rfl, hO1, hw1, hb1⟩
  have O1 : Blk w2 (w.heap.size + 1) 28 #[.slice A1 1 c1] := hO1
  have own1 : OwnM w2 (w.heap.size + 2) A1 c1 [(12, id, mf, mi, mc)] := hw1
  have X1 := X0.below hb1 (by omega)
  have bb1 : Below w.heap.size w w2 := bb0.trans (hb1.mono (by omega))
  have sz1 : w.heap.size + 2 ≤ w2.heap.size := Nat.le_trans sz0 hb1.size
  have i1 := X1.c 1 (.int .i64 id) rfl
  have x0 := X1.c 0 (.int .i64 n) rfl
  have x2 := X1.c 2 (.int .i64 t) rfl
  have x3 := X1.c 3 (.bool true) rfl
  have x4 := X1.c 4 (.int .i64 sn) rfl
  have x5 := X1.c 5 (.slice H hu.length hc) rfl
  have x6 := X1.c 6 (.slice C co.length cc) rfl
  have x7 := X1.c 7 (.int .i64 bh) rfl
  have x8 := X1.c 8 (.int .i64 mi) rfl
  have x9 := X1.c 9 (.int .i64 mf) rfl
  have x10 := X1.c 10 (.int .i64 mc) rfl
  have oc1 := O1.c 0 (.slice A1 1 c1) rfl
  go_wp2_with fail
  clear x0 x2 x3 x4 x5 x6 x7 x8 x9 x10
  have ln1 : Hid (1 = ([(12, id, mf, mi, mc)] : List Msg).length) := Lib.hid rfl
  have lm1 : Hid (([(12, id, mf, mi, mc)] : List Msg).length ≤ 50) := Lib.hid (by rw [← ln1.out]; decide)
  with_reducible refine (ask1_any 10 P bh 0 id (w.heap.size + 1) w.heap.size (w.heap.size + 2) A1 1 c1 [(12, id, mf, mi, mc)] _ O1 ln1.out own1 i1 lm1.out (by omega) sz1).mono ?_
  rintro e w3 ⟨A2, c2, v2, rfl, hO2, hw2, hb2⟩
  have O2 : Blk w3 (w.heap.size + 1) 28 #[.slice A2 2 c2] := hO2
  have own2 : OwnM w3 (w.heap.size + 2) A2 c2 [(12, id, mf, mi, mc), (10, id, P, bh, 0)] := hw2
  have X2 := X1.below hb2 (by omega)
  have bb2 : Below w.heap.size w w3 := bb1.trans (hb2.mono (by omega))
  have sz2 : w.heap.size + 2 ≤ w3.heap.size := Nat.le_trans sz1 hb2.size
  have i2 := X2.c 1 (.int .i64 id) rfl
  have x0 := X2.c 0 (.int .i64 n) rfl
  have x2 := X2.c 2 (.int .i64 t) rfl
  have x3 := X2.c 3 (.bool true) rfl
  have x4 := X2.c 4 (.int .i64 sn) rfl
  have x5 := X2.c 5 (.slice H hu.length hc) rfl
  have x6 := X2.c 6 (.slice C co.length cc) rfl
  have x7 := X2.c 7 (.int .i64 bh) rfl
  have x8 := X2.c 8 (.int .i64 mi) rfl
  have x9 := X2.c 9 (.int .i64 mf) rfl
  have x10 := X2.c 10 (.int .i64 mc) rfl
  have oc2 := O2.c 0 (.slice A2 2 c2) rfl
  go_wp2_with fail
  go_ret
  exact ⟨_, _, rfl, own2.mono (by omega), bb2⟩

set_option maxRecDepth 100000 in
set_option maxHeartbeats 1000000 in
theorem ask_Mq00 (n id t sn bh mi mf mc : Int) (H C : Option Addr) (hc cc : Nat) (hu co : List Int) (w : World) (ht : t ≤ 9223372036854775807) (P : Int) (HP : Hid (peerI n id t = P)) (hP : 0 ≤ P) (hmi : mi ≠ 0) : Calls Try.prog 12 #[.agg #[.int .i64 n, .int .i64 id, .int .i64 t, .bool false, .int .i64 sn, .slice H hu.length hc, .slice C 0 cc, .int .i64 0, .int .i64 mi, .int .i64 mf, .int .i64 mc]] w (RetM w [(12, id, mf, mi, mc)]) := by
  have hP2 : decide (P < 0) = false := decide_eq_false (by omega)
  have gmi : (mi != 0) = true := by rw [bne_iff_ne]; exact hmi
  clear hmi
  go_enter Try.func12, Try.ntmps12
  go_wp2_with fail
  with_reducible refine (peer_any n id t _ ht).mono ?_
  rw [HP.out]
  rintro e w1 ⟨rfl, rfl⟩
  have X0 := (Blk.new w 24 #[.int .i64 n, .int .i64 id, .int .i64 t, .bool false, .int .i64 sn, .slice H hu.length hc, .slice C 0 cc, .int .i64 0, .int .i64 mi, .int .i64 mf, .int .i64 mc]).alloc (.cells #[.slice none 0 0] 28)
  have O0 : Blk ((w.alloc (.cells #[.int .i64 n, .int .i64 id, .int .i64 t, .bool false, .int .i64 sn, .slice H hu.length hc, .slice C 0 cc, .int .i64 0, .int .i64 mi, .int .i64 mf, .int .i64 mc] 24)).alloc (.cells #[.slice none 0 0] 28)) (w.heap.size + 1) 28 #[.slice none 0 0] := Blk.new' _ _ (by simp)
  have own0 : OwnM ((w.alloc (.cells #[.int .i64 n, .int .i64 id, .int .i64 t, .bool false, .int .i64 sn, .slice H hu.length hc, .slice C 0 cc, .int .i64 0, .int .i64 mi, .int .i64 mf, .int .i64 mc] 24)).alloc (.cells #[.slice none 0 0] 28)) (w.heap.size + 2) none 0 [] := OwnM.none_ _ _
  have bb0 : Below w.heap.size w ((w.alloc (.cells #[.int .i64 n, .int .i64 id, .int .i64 t, .bool false, .int .i64 sn, .slice H hu.length hc, .slice C 0 cc, .int .i64 0, .int .i64 mi, .int .i64 mf, .int .i64 mc] 24)).alloc (.cells #[.slice none 0 0] 28)) := bal (bal0 w _) _
  have sz0 : w.heap.size + 2 ≤ ((w.alloc (.cells #[.int .i64 n, .int .i64 id, .int .i64 t, .bool false, .int .i64 sn, .slice H hu.length hc, .slice C 0 cc, .int .i64 0, .int .i64 mi, .int .i64 mf, .int .i64 mc] 24)).alloc (.cells #[.slice none 0 0] 28)).heap.size := by simp
  have i0 := X0.c 1 (.int .i64 id) rfl
  go_wp2_with fail
  have ln0 : Hid (0 = ([] : List Msg).length) := Lib.hid rfl
  have lm0 : Hid (([] : List Msg).length ≤ 50) := Lib.hid (by rw [← ln0.out]; decide)
  with_reducible refine (ask1_any 12 mf mi mc id (w.heap.size + 1) w.heap.size (w.heap.size + 2) none 0 0 [] _ O0 ln0.out own0 i0 lm0.out (by omega) sz0).mono ?_
  rintro e w2 ⟨A1, c1, v1, rfl, hO1, hw1, hb1⟩
  have O1 : Blk w2 (w.heap.size + 1) 28 #[.slice A1 1 c1] := hO1
  have own1 : OwnM w2 (w.heap.size + 2) A1 c1 [(12, id, mf, mi, mc)] := hw1
  have X1 := X0.below hb1 (by omega)
  have bb1 : Below w.heap.size w w2 := bb0.trans (hb1.mono (by omega))
  have sz1 : w.heap.size + 2 ≤ w2.heap.size := Nat.le_trans sz0 hb1.size
  have i1 := X1.c 1 (.int .i64 id) rfl
  have x0 := X1.c 0 (.int .i64 n) rfl
  have x2 := X1.c 2 (.int .i64 t) rfl
  have x3 := X1.c 3 (.bool false) rfl
  have x4 := X1.c 4 (.int .i64 sn) rfl
  have x5 := X1.c 5 (.slice H hu.length hc) rfl
  have x6 := X1.c 6 (.slice C 0 cc) rfl
  have x7 := X1.c 7 (.int .i64 0) rfl
  have x8 := X1.c 8 (.int .i64 mi) rfl
  have x9 := X1.c 9 (.int .i64 mf) rfl
  have x10 := X1.c 10 (.int .i64 mc) rfl
  have oc1 := O1.c 0 (.slice A1 1 c1) rfl
  go_wp2_with fail
  go_ret
  exact ⟨_, _, rfl, own1.mono (by omega), bb1⟩

set_option maxRecDepth 100000 in
set_option maxHeartbeats 1000000 in
theorem ask_Mq01 (n id t sn bh mi mf mc : Int) (H C : Option Addr) (hc cc : Nat) (hu co : List Int) (w : World) (ht : t ≤ 9223372036854775807) (P : Int) (HP : Hid (peerI n id t = P)) (hP : 0 ≤ P) (hmi : mi ≠ 0) (hco : co ≠ []) (hrc : RdI w C co) (ht0 : 0 ≤ t) (hcol : co.length ≤ 100) : Calls Try.prog 12 #[.agg #[.int .i64 n, .int .i64 id, .int .i64 t, .bool false, .int .i64 sn, .slice H hu.length hc, .slice C co.length cc, .int .i64 0, .int .i64 mi, .int .i64 mf, .int .i64 mc]] w (RetM w [(12, id, mf, mi, mc), (14, id, P, co.getD (t % co.length).toNat 0, 0)]) := by
  have hP2 : decide (P < 0) = false := decide_eq_false (by omega)
  have gmi : (mi != 0) = true := by rw [bne_iff_ne]; exact hmi
  clear hmi
  have hc0 : 0 < co.length := List.length_pos_iff.2 hco
  have hc0' : (0 : Int) < co.length := by omega
  obtain ⟨cb_, co_, rfl, hcl⟩ := hrc hco
  have hq0 := Int.emod_nonneg t (show (co.length : Int) ≠ 0 by omega)
  have hq1 := Int.emod_lt_of_pos t hc0'
  obtain ⟨q, hq⟩ : ∃ q : Nat, t % (co.length : Int) = (q : Int) := ⟨(t % (co.length : Int)).toNat, by omega⟩
  have hqn : (t % (co.length : Int)).toNat = q := by omega
  have hqlt : q < co.length := by omega
  have hqt : t.tmod (co.length : Int) = (q : Int) := by rw [Int.tmod_eq_emod_of_nonneg ht0]; exact hq
  have hcn1 : ((co.length : Int) == 0) = false := by rw [beq_eq_false_iff_ne]; omega
  have hcn2 : ¬ co.length = 0 := by omega
  have hcn3 : ¬ co = [] := hco
  have hqw : IntKind.i64.wrap (q : Int) = q := by rw [IntKind.wrap_i64]; omega
  rw [hqn]
  obtain ⟨yc, HYC⟩ : ∃ y, Hid (co.getD q 0 = y) := ⟨_, Lib.hid rfl⟩
  have hyc : w.cell? ⟨cb_, co_ + q, none⟩ = some (.int .i64 yc) := by
    rw [hcl q hqlt, ← HYC.out, List.getD_eq_getElem?_getD, List.getElem?_eq_getElem hqlt]
    rfl
  have hltc := World.block_lt_of_cell? w _ hyc
  have hqi : (q : Int) < co.length := by omega
  rw [HYC.out]
  clear hcl hco hrc hq0 hq1 hqn
  go_enter Try.func12, Try.ntmps12
  go_wp2_with fail
  with_reducible refine (peer_any n id t _ ht).mono ?_
  rw [HP.out]
  rintro e w1 ⟨rfl, rfl⟩
  have X0 := (Blk.new w 24 #[.int .i64 n, .int .i64 id, .int .i64 t, .bool false, .int .i64 sn, .slice H hu.length hc, .slice (some ⟨cb_, co_, none⟩) co.length cc, .int .i64 0, .int .i64 mi, .int .i64 mf, .int .i64 mc]).alloc (.cells #[.slice none 0 0] 28)
  have O0 : Blk ((w.alloc (.cells #[.int .i64 n, .int .i64 id, .int .i64 t, .bool false, .int .i64 sn, .slice H hu.length hc, .slice (some ⟨cb_, co_, none⟩) co.length cc, .int .i64 0, .int .i64 mi, .int .i64 mf, .int .i64 mc] 24)).alloc (.cells #[.slice none 0 0] 28)) (w.heap.size + 1) 28 #[.slice none 0 0] := Blk.new' _ _ (by simp)
  have own0 : OwnM ((w.alloc (.cells #[.int .i64 n, .int .i64 id, .int .i64 t, .bool false, .int .i64 sn, .slice H hu.length hc, .slice (some ⟨cb_, co_, none⟩) co.length cc, .int .i64 0, .int .i64 mi, .int .i64 mf, .int .i64 mc] 24)).alloc (.cells #[.slice none 0 0] 28)) (w.heap.size + 2) none 0 [] := OwnM.none_ _ _
  have bb0 : Below w.heap.size w ((w.alloc (.cells #[.int .i64 n, .int .i64 id, .int .i64 t, .bool false, .int .i64 sn, .slice H hu.length hc, .slice (some ⟨cb_, co_, none⟩) co.length cc, .int .i64 0, .int .i64 mi, .int .i64 mf, .int .i64 mc] 24)).alloc (.cells #[.slice none 0 0] 28)) := bal (bal0 w _) _
  have sz0 : w.heap.size + 2 ≤ ((w.alloc (.cells #[.int .i64 n, .int .i64 id, .int .i64 t, .bool false, .int .i64 sn, .slice H hu.length hc, .slice (some ⟨cb_, co_, none⟩) co.length cc, .int .i64 0, .int .i64 mi, .int .i64 mf, .int .i64 mc] 24)).alloc (.cells #[.slice none 0 0] 28)).heap.size := by simp
  have i0 := X0.c 1 (.int .i64 id) rfl
  go_wp2_with fail
  have ln0 : Hid (0 = ([] : List Msg).length) := Lib.hid rfl
  have lm0 : Hid (([] : List Msg).length ≤ 50) := Lib.hid (by rw [← ln0.out]; decide)
  with_reducible refine (ask1_any 12 mf mi mc id (w.heap.size + 1) w.heap.size (w.heap.size + 2) none 0 0 [] _ O0 ln0.out own0 i0 lm0.out (by omega) sz0).mono ?_
  rintro e w2 ⟨A1, c1, v1, rfl, hO1, hw1, hb1⟩
  have O1 : Blk w2 (w.heap.size + 1) 28 #[.slice A1 1 c1] := hO1
  have own1 : OwnM w2 (w.heap.size + 2) A1 c1 [(12, id, mf, mi, mc)] := hw1
  have X1 := X0.below hb1 (by omega)
  have bb1 : Below w.heap.size w w2 := bb0.trans (hb1.mono (by omega))
  have sz1 : w.heap.size + 2 ≤ w2.heap.size := Nat.le_trans sz0 hb1.size
  have i1 := X1.c 1 (.int .i64 id) rfl
  have x0 := X1.c 0 (.int .i64 n) rfl
  have x2 := X1.c 2 (.int .i64 t) rfl
  have x3 := X1.c 3 (.bool false) rfl
  have x4 := X1.c 4 (.int .i64 sn) rfl
  have x5 := X1.c 5 (.slice H hu.length hc) rfl
  have x6 := X1.c 6 (.slice (some ⟨cb_, co_, none⟩) co.length cc) rfl
  have x7 := X1.c 7 (.int .i64 0) rfl
  have x8 := X1.c 8 (.int .i64 mi) rfl
  have x9 := X1.c 9 (.int .i64 mf) rfl
  have x10 := X1.c 10 (.int .i64 mc) rfl
  have oc1 := O1.c 0 (.slice A1 1 c1) rfl
  have hyc_1 : w2.cell? ⟨cb_, co_ + q, none⟩ = some (.int .i64 yc) := (bb1.cell (p := ⟨cb_, co_ + q, none⟩) hltc).trans hyc
  go_wp2_with fail
  go_still_tail 10, (by kernel_rfl)
  change wpList _ _ _ _ _ w2.drew
  go_wp2_with fail
  clear x0 x2 x3 x4 x5 x6 x7 x8 x9 x10
  have i1d : w2.drew.cell? ⟨w.heap.size, 1, none⟩ = some (.int .i64 id) := i1
  have sz1d : w.heap.size + 2 ≤ w2.drew.heap.size := sz1
  have ln1 : Hid (1 = ([(12, id, mf, mi, mc)] : List Msg).length) := Lib.hid rfl
  have lm1 : Hid (([(12, id, mf, mi, mc)] : List Msg).length ≤ 50) := Lib.hid (by rw [← ln1.out]; decide)
  with_reducible refine (ask1_any 14 P yc 0 id (w.heap.size + 1) w.heap.size (w.heap.size + 2) A1 1 c1 [(12, id, mf, mi, mc)] _ O1.drew ln1.out own1.drew i1d lm1.out (by omega) sz1d).mono ?_
  rintro e w3 ⟨A2, c2, v2, rfl, hO2, hw2, hb2⟩
  have O2 : Blk w3 (w.heap.size + 1) 28 #[.slice A2 2 c2] := hO2
  have own2 : OwnM w3 (w.heap.size + 2) A2 c2 [(12, id, mf, mi, mc), (14, id, P, yc, 0)] := hw2
  have X2 := X1.drew.below hb2 (by omega)
  have bb2 : Below w.heap.size w w3 := bb1.drew.trans (hb2.mono (by omega))
  have sz2 : w.heap.size + 2 ≤ w3.heap.size := Nat.le_trans sz1 hb2.size
  have i2 := X2.c 1 (.int .i64 id) rfl
  have x0 := X2.c 0 (.int .i64 n) rfl
  have x2 := X2.c 2 (.int .i64 t) rfl
  have x3 := X2.c 3 (.bool false) rfl
  have x4 := X2.c 4 (.int .i64 sn) rfl
  have x5 := X2.c 5 (.slice H hu.length hc) rfl
  have x6 := X2.c 6 (.slice (some ⟨cb_, co_, none⟩) co.length cc) rfl
  have x7 := X2.c 7 (.int .i64 0) rfl
  have x8 := X2.c 8 (.int .i64 mi) rfl
  have x9 := X2.c 9 (.int .i64 mf) rfl
  have x10 := X2.c 10 (.int .i64 mc) rfl
  have oc2 := O2.c 0 (.slice A2 2 c2) rfl
  have hyc_2 : w3.cell? ⟨cb_, co_ + q, none⟩ = some (.int .i64 yc) := (bb2.cell (p := ⟨cb_, co_ + q, none⟩) hltc).trans hyc
  go_wp2_with fail
  go_ret
  exact ⟨_, _, rfl, own2.mono (by omega), bb2⟩

set_option maxRecDepth 100000 in
set_option maxHeartbeats 1000000 in
theorem ask_Mq10 (n id t sn bh mi mf mc : Int) (H C : Option Addr) (hc cc : Nat) (hu co : List Int) (w : World) (ht : t ≤ 9223372036854775807) (P : Int) (HP : Hid (peerI n id t = P)) (hP : 0 ≤ P) (hmi : mi ≠ 0) (hbh : bh ≠ 0) : Calls Try.prog 12 #[.agg #[.int .i64 n, .int .i64 id, .int .i64 t, .bool false, .int .i64 sn, .slice H hu.length hc, .slice C 0 cc, .int .i64 bh, .int .i64 mi, .int .i64 mf, .int .i64 mc]] w (RetM w [(12, id, mf, mi, mc), (10, id, P, bh, 0)]) := by
  have hP2 : decide (P < 0) = false := decide_eq_false (by omega)
  have gmi : (mi != 0) = true := by rw [bne_iff_ne]; exact hmi
  clear hmi
  have gbh : (bh != 0) = true := by rw [bne_iff_ne]; exact hbh
  clear hbh
  go_enter Try.func12, Try.ntmps12
  go_wp2_with fail
  with_reducible refine (peer_any n id t _ ht).mono ?_
  rw [HP.out]
  rintro e w1 ⟨rfl, rfl⟩
  have X0 := (Blk.new w 24 #[.int .i64 n, .int .i64 id, .int .i64 t, .bool false, .int .i64 sn, .slice H hu.length hc, .slice C 0 cc, .int .i64 bh, .int .i64 mi, .int .i64 mf, .int .i64 mc]).alloc (.cells #[.slice none 0 0] 28)
  have O0 : Blk ((w.alloc (.cells #[.int .i64 n, .int .i64 id, .int .i64 t, .bool false, .int .i64 sn, .slice H hu.length hc, .slice C 0 cc, .int .i64 bh, .int .i64 mi, .int .i64 mf, .int .i64 mc] 24)).alloc (.cells #[.slice none 0 0] 28)) (w.heap.size + 1) 28 #[.slice none 0 0] := Blk.new' _ _ (by simp)
  have own0 : OwnM ((w.alloc (.cells #[.int .i64 n, .int .i64 id, .int .i64 t, .bool false, .int .i64 sn, .slice H hu.length hc, .slice C 0 cc, .int .i64 bh, .int .i64 mi, .int .i64 mf, .int .i64 mc] 24)).alloc (.cells #[.slice none 0 0] 28)) (w.heap.size + 2) none 0 [] := OwnM.none_ _ _
  have bb0 : Below w.heap.size w ((w.alloc (.cells #[.int .i64 n, .int .i64 id, .int .i64 t, .bool false, .int .i64 sn, .slice H hu.length hc, .slice C 0 cc, .int .i64 bh, .int .i64 mi, .int .i64 mf, .int .i64 mc] 24)).alloc (.cells #[.slice none 0 0] 28)) := bal (bal0 w _) _
  have sz0 : w.heap.size + 2 ≤ ((w.alloc (.cells #[.int .i64 n, .int .i64 id, .int .i64 t, .bool false, .int .i64 sn, .slice H hu.length hc, .slice C 0 cc, .int .i64 bh, .int .i64 mi, .int .i64 mf, .int .i64 mc] 24)).alloc (.cells #[.slice none 0 0] 28)).heap.size := by simp
  have i0 := X0.c 1 (.int .i64 id) rfl
  go_wp2_with fail
  have ln0 : Hid (0 = ([] : List Msg).length) := Lib.hid rfl
  have lm0 : Hid (([] : List Msg).length ≤ 50) := Lib.hid (by rw [← ln0.out]; decide)
  with_reducible refine (ask1_any 12 mf mi mc id (w.heap.size + 1) w.heap.size (w.heap.size + 2) none 0 0 [] _ O0 ln0.out own0 i0 lm0.out (by omega) sz0).mono ?_
  rintro e w2 ⟨A1, c1, v1, rfl, hO1, hw1, hb1⟩
  have O1 : Blk w2 (w.heap.size + 1) 28 #[.slice A1 1 c1] := hO1
  have own1 : OwnM w2 (w.heap.size + 2) A1 c1 [(12, id, mf, mi, mc)] := hw1
  have X1 := X0.below hb1 (by omega)
  have bb1 : Below w.heap.size w w2 := bb0.trans (hb1.mono (by omega))
  have sz1 : w.heap.size + 2 ≤ w2.heap.size := Nat.le_trans sz0 hb1.size
  have i1 := X1.c 1 (.int .i64 id) rfl
  have x0 := X1.c 0 (.int .i64 n) rfl
  have x2 := X1.c 2 (.int .i64 t) rfl
  have x3 := X1.c 3 (.bool false) rfl
  have x4 := X1.c 4 (.int .i64 sn) rfl
  have x5 := X1.c 5 (.slice H hu.length hc) rfl
  have x6 := X1.c 6 (.slice C 0 cc) rfl
  have x7 := X1.c 7 (.int .i64 bh) rfl
  have x8 := X1.c 8 (.int .i64 mi) rfl
  have x9 := X1.c 9 (.int .i64 mf) rfl
  have x10 := X1.c 10 (.int .i64 mc) rfl
  have oc1 := O1.c 0 (.slice A1 1 c1) rfl
  go_wp2_with fail
  clear x0 x2 x3 x4 x5 x6 x7 x8 x9 x10
  have ln1 : Hid (1 = ([(12, id, mf, mi, mc)] : List Msg).length) := Lib.hid rfl
  have lm1 : Hid (([(12, id, mf, mi, mc)] : List Msg).length ≤ 50) := Lib.hid (by rw [← ln1.out]; decide)
  with_reducible refine (ask1_any 10 P bh 0 id (w.heap.size + 1) w.heap.size (w.heap.size + 2) A1 1 c1 [(12, id, mf, mi, mc)] _ O1 ln1.out own1 i1 lm1.out (by omega) sz1).mono ?_
  rintro e w3 ⟨A2, c2, v2, rfl, hO2, hw2, hb2⟩
  have O2 : Blk w3 (w.heap.size + 1) 28 #[.slice A2 2 c2] := hO2
  have own2 : OwnM w3 (w.heap.size + 2) A2 c2 [(12, id, mf, mi, mc), (10, id, P, bh, 0)] := hw2
  have X2 := X1.below hb2 (by omega)
  have bb2 : Below w.heap.size w w3 := bb1.trans (hb2.mono (by omega))
  have sz2 : w.heap.size + 2 ≤ w3.heap.size := Nat.le_trans sz1 hb2.size
  have i2 := X2.c 1 (.int .i64 id) rfl
  have x0 := X2.c 0 (.int .i64 n) rfl
  have x2 := X2.c 2 (.int .i64 t) rfl
  have x3 := X2.c 3 (.bool false) rfl
  have x4 := X2.c 4 (.int .i64 sn) rfl
  have x5 := X2.c 5 (.slice H hu.length hc) rfl
  have x6 := X2.c 6 (.slice C 0 cc) rfl
  have x7 := X2.c 7 (.int .i64 bh) rfl
  have x8 := X2.c 8 (.int .i64 mi) rfl
  have x9 := X2.c 9 (.int .i64 mf) rfl
  have x10 := X2.c 10 (.int .i64 mc) rfl
  have oc2 := O2.c 0 (.slice A2 2 c2) rfl
  go_wp2_with fail
  go_ret
  exact ⟨_, _, rfl, own2.mono (by omega), bb2⟩

set_option maxRecDepth 100000 in
set_option maxHeartbeats 1000000 in
theorem ask_Mq11 (n id t sn bh mi mf mc : Int) (H C : Option Addr) (hc cc : Nat) (hu co : List Int) (w : World) (ht : t ≤ 9223372036854775807) (P : Int) (HP : Hid (peerI n id t = P)) (hP : 0 ≤ P) (hmi : mi ≠ 0) (hbh : bh ≠ 0) (hco : co ≠ []) (hrc : RdI w C co) (ht0 : 0 ≤ t) (hcol : co.length ≤ 100) : Calls Try.prog 12 #[.agg #[.int .i64 n, .int .i64 id, .int .i64 t, .bool false, .int .i64 sn, .slice H hu.length hc, .slice C co.length cc, .int .i64 bh, .int .i64 mi, .int .i64 mf, .int .i64 mc]] w (RetM w [(12, id, mf, mi, mc), (10, id, P, bh, 0), (14, id, P, co.getD (t % co.length).toNat 0, 0)]) := by
  have hP2 : decide (P < 0) = false := decide_eq_false (by omega)
  have gmi : (mi != 0) = true := by rw [bne_iff_ne]; exact hmi
  clear hmi
  have gbh : (bh != 0) = true := by rw [bne_iff_ne]; exact hbh
  clear hbh
  have hc0 : 0 < co.length := List.length_pos_iff.2 hco
  have hc0' : (0 : Int) < co.length := by omega
  obtain ⟨cb_, co_, rfl, hcl⟩ := hrc hco
  have hq0 := Int.emod_nonneg t (show (co.length : Int) ≠ 0 by omega)
  have hq1 := Int.emod_lt_of_pos t hc0'
  obtain ⟨q, hq⟩ : ∃ q : Nat, t % (co.length : Int) = (q : Int) := ⟨(t % (co.length : Int)).toNat, by omega⟩
  have hqn : (t % (co.length : Int)).toNat = q := by omega
  have hqlt : q < co.length := by omega
  have hqt : t.tmod (co.length : Int) = (q : Int) := by rw [Int.tmod_eq_emod_of_nonneg ht0]; exact hq
  have hcn1 : ((co.length : Int) == 0) = false := by rw [beq_eq_false_iff_ne]; omega
  have hcn2 : ¬ co.length = 0 := by omega
  have hcn3 : ¬ co = [] := hco
  have hqw : IntKind.i64.wrap (q : Int) = q := by rw [IntKind.wrap_i64]; omega
  rw [hqn]
  obtain ⟨yc, HYC⟩ : ∃ y, Hid (co.getD q 0 = y) := ⟨_, Lib.hid rfl⟩
  have hyc : w.cell? ⟨cb_, co_ + q, none⟩ = some (.int .i64 yc) := by
    rw [hcl q hqlt, ← HYC.out, List.getD_eq_getElem?_getD, List.getElem?_eq_getElem hqlt]
    rfl
  have hltc := World.block_lt_of_cell? w _ hyc
  have hqi : (q : Int) < co.length := by omega
  rw [HYC.out]
  clear hcl hco hrc hq0 hq1 hqn
  go_enter Try.func12, Try.ntmps12
  go_wp2_with fail
  with_reducible refine (peer_any n id t _ ht).mono ?_
  rw [HP.out]
  rintro e w1 ⟨rfl, rfl⟩
  have X0 := (Blk.new w 24 #[.int .i64 n, .int .i64 id, .int .i64 t, .bool false, .int .i64 sn, .slice H hu.length hc, .slice (some ⟨cb_, co_, none⟩) co.length cc, .int .i64 bh, .int .i64 mi, .int .i64 mf, .int .i64 mc]).alloc (.cells #[.slice none 0 0] 28)
  have O0 : Blk ((w.alloc (.cells #[.int .i64 n, .int .i64 id, .int .i64 t, .bool false, .int .i64 sn, .slice H hu.length hc, .slice (some ⟨cb_, co_, none⟩) co.length cc, .int .i64 bh, .int .i64 mi, .int .i64 mf, .int .i64 mc] 24)).alloc (.cells #[.slice none 0 0] 28)) (w.heap.size + 1) 28 #[.slice none 0 0] := Blk.new' _ _ (by simp)
  have own0 : OwnM ((w.alloc (.cells #[.int .i64 n, .int .i64 id, .int .i64 t, .bool false, .int .i64 sn, .slice H hu.length hc, .slice (some ⟨cb_, co_, none⟩) co.length cc, .int .i64 bh, .int .i64 mi, .int .i64 mf, .int .i64 mc] 24)).alloc (.cells #[.slice none 0 0] 28)) (w.heap.size + 2) none 0 [] := OwnM.none_ _ _
  have bb0 : Below w.heap.size w ((w.alloc (.cells #[.int .i64 n, .int .i64 id, .int .i64 t, .bool false, .int .i64 sn, .slice H hu.length hc, .slice (some ⟨cb_, co_, none⟩) co.length cc, .int .i64 bh, .int .i64 mi, .int .i64 mf, .int .i64 mc] 24)).alloc (.cells #[.slice none 0 0] 28)) := bal (bal0 w _) _
  have sz0 : w.heap.size + 2 ≤ ((w.alloc (.cells #[.int .i64 n, .int .i64 id, .int .i64 t, .bool false, .int .i64 sn, .slice H hu.length hc, .slice (some ⟨cb_, co_, none⟩) co.length cc, .int .i64 bh, .int .i64 mi, .int .i64 mf, .int .i64 mc] 24)).alloc (.cells #[.slice none 0 0] 28)).heap.size := by simp
  have i0 := X0.c 1 (.int .i64 id) rfl
  go_wp2_with fail
  have ln0 : Hid (0 = ([] : List Msg).length) := Lib.hid rfl
  have lm0 : Hid (([] : List Msg).length ≤ 50) := Lib.hid (by rw [← ln0.out]; decide)
  with_reducible refine (ask1_any 12 mf mi mc id (w.heap.size + 1) w.heap.size (w.heap.size + 2) none 0 0 [] _ O0 ln0.out own0 i0 lm0.out (by omega) sz0).mono ?_
  rintro e w2 ⟨A1, c1, v1, rfl, hO1, hw1, hb1⟩
  have O1 : Blk w2 (w.heap.size + 1) 28 #[.slice A1 1 c1] := hO1
  have own1 : OwnM w2 (w.heap.size + 2) A1 c1 [(12, id, mf, mi, mc)] := hw1
  have X1 := X0.below hb1 (by omega)
  have bb1 : Below w.heap.size w w2 := bb0.trans (hb1.mono (by omega))
  have sz1 : w.heap.size + 2 ≤ w2.heap.size := Nat.le_trans sz0 hb1.size
  have i1 := X1.c 1 (.int .i64 id) rfl
  have x0 := X1.c 0 (.int .i64 n) rfl
  have x2 := X1.c 2 (.int .i64 t) rfl
  have x3 := X1.c 3 (.bool false) rfl
  have x4 := X1.c 4 (.int .i64 sn) rfl
  have x5 := X1.c 5 (.slice H hu.length hc) rfl
  have x6 := X1.c 6 (.slice (some ⟨cb_, co_, none⟩) co.length cc) rfl
  have x7 := X1.c 7 (.int .i64 bh) rfl
  have x8 := X1.c 8 (.int .i64 mi) rfl
  have x9 := X1.c 9 (.int .i64 mf) rfl
  have x10 := X1.c 10 (.int .i64 mc) rfl
  have oc1 := O1.c 0 (.slice A1 1 c1) rfl
  have hyc_1 : w2.cell? ⟨cb_, co_ + q, none⟩ = some (.int .i64 yc) := (bb1.cell (p := ⟨cb_, co_ + q, none⟩) hltc).trans hyc
  go_wp2_with fail
  clear x0 x2 x3 x4 x5 x6 x7 x8 x9 x10
  have ln1 : Hid (1 = ([(12, id, mf, mi, mc)] : List Msg).length) := Lib.hid rfl
  have lm1 : Hid (([(12, id, mf, mi, mc)] : List Msg).length ≤ 50) := Lib.hid (by rw [← ln1.out]; decide)
  with_reducible refine (ask1_any 10 P bh 0 id (w.heap.size + 1) w.heap.size (w.heap.size + 2) A1 1 c1 [(12, id, mf, mi, mc)] _ O1 ln1.out own1 i1 lm1.out (by omega) sz1).mono ?_
  rintro e w3 ⟨A2, c2, v2, rfl, hO2, hw2, hb2⟩
  have O2 : Blk w3 (w.heap.size + 1) 28 #[.slice A2 2 c2] := hO2
  have own2 : OwnM w3 (w.heap.size + 2) A2 c2 [(12, id, mf, mi, mc), (10, id, P, bh, 0)] := hw2
  have X2 := X1.below hb2 (by omega)
  have bb2 : Below w.heap.size w w3 := bb1.trans (hb2.mono (by omega))
  have sz2 : w.heap.size + 2 ≤ w3.heap.size := Nat.le_trans sz1 hb2.size
  have i2 := X2.c 1 (.int .i64 id) rfl
  have x0 := X2.c 0 (.int .i64 n) rfl
  have x2 := X2.c 2 (.int .i64 t) rfl
  have x3 := X2.c 3 (.bool false) rfl
  have x4 := X2.c 4 (.int .i64 sn) rfl
  have x5 := X2.c 5 (.slice H hu.length hc) rfl
  have x6 := X2.c 6 (.slice (some ⟨cb_, co_, none⟩) co.length cc) rfl
  have x7 := X2.c 7 (.int .i64 bh) rfl
  have x8 := X2.c 8 (.int .i64 mi) rfl
  have x9 := X2.c 9 (.int .i64 mf) rfl
  have x10 := X2.c 10 (.int .i64 mc) rfl
  have oc2 := O2.c 0 (.slice A2 2 c2) rfl
  have hyc_2 : w3.cell? ⟨cb_, co_ + q, none⟩ = some (.int .i64 yc) := (bb2.cell (p := ⟨cb_, co_ + q, none⟩) hltc).trans hyc
  go_wp2_with fail
  go_still_tail 10, (by kernel_rfl)
  change wpList _ _ _ _ _ w3.drew
  go_wp2_with fail
  clear x0 x2 x3 x4 x5 x6 x7 x8 x9 x10
  have i2d : w3.drew.cell? ⟨w.heap.size, 1, none⟩ = some (.int .i64 id) := i2
  have sz2d : w.heap.size + 2 ≤ w3.drew.heap.size := sz2
  have ln2 : Hid (2 = ([(12, id, mf, mi, mc), (10, id, P, bh, 0)] : List Msg).length) := Lib.hid rfl
  have lm2 : Hid (([(12, id, mf, mi, mc), (10, id, P, bh, 0)] : List Msg).length ≤ 50) := Lib.hid (by rw [← ln2.out]; decide)
  with_reducible refine (ask1_any 14 P yc 0 id (w.heap.size + 1) w.heap.size (w.heap.size + 2) A2 2 c2 [(12, id, mf, mi, mc), (10, id, P, bh, 0)] _ O2.drew ln2.out own2.drew i2d lm2.out (by omega) sz2d).mono ?_
  rintro e w4 ⟨A3, c3, v3, rfl, hO3, hw3, hb3⟩
  have O3 : Blk w4 (w.heap.size + 1) 28 #[.slice A3 3 c3] := hO3
  have own3 : OwnM w4 (w.heap.size + 2) A3 c3 [(12, id, mf, mi, mc), (10, id, P, bh, 0), (14, id, P, yc, 0)] := hw3
  have X3 := X2.drew.below hb3 (by omega)
  have bb3 : Below w.heap.size w w4 := bb2.drew.trans (hb3.mono (by omega))
  have sz3 : w.heap.size + 2 ≤ w4.heap.size := Nat.le_trans sz2 hb3.size
  have i3 := X3.c 1 (.int .i64 id) rfl
  have x0 := X3.c 0 (.int .i64 n) rfl
  have x2 := X3.c 2 (.int .i64 t) rfl
  have x3 := X3.c 3 (.bool false) rfl
  have x4 := X3.c 4 (.int .i64 sn) rfl
  have x5 := X3.c 5 (.slice H hu.length hc) rfl
  have x6 := X3.c 6 (.slice (some ⟨cb_, co_, none⟩) co.length cc) rfl
  have x7 := X3.c 7 (.int .i64 bh) rfl
  have x8 := X3.c 8 (.int .i64 mi) rfl
  have x9 := X3.c 9 (.int .i64 mf) rfl
  have x10 := X3.c 10 (.int .i64 mc) rfl
  have oc3 := O3.c 0 (.slice A3 3 c3) rfl
  have hyc_3 : w4.cell? ⟨cb_, co_ + q, none⟩ = some (.int .i64 yc) := (bb3.cell (p := ⟨cb_, co_ + q, none⟩) hltc).trans hyc
  go_wp2_with fail
  go_ret
  exact ⟨_, _, rfl, own3.mono (by omega), bb3⟩

set_option maxRecDepth 100000 in
set_option maxHeartbeats 1000000 in
theorem ask_Hq00 (n id t sn bh mi mf mc : Int) (H C : Option Addr) (hc cc : Nat) (hu co : List Int) (w : World) (ht : t ≤ 9223372036854775807) (P : Int) (HP : Hid (peerI n id t = P)) (hP : 0 ≤ P) (hhu : hu ≠ []) (hr : RdI w H hu) : Calls Try.prog 12 #[.agg #[.int .i64 n, .int .i64 id, .int .i64 t, .bool false, .int .i64 sn, .slice H hu.length hc, .slice C 0 cc, .int .i64 0, .int .i64 0, .int .i64 mf, .int .i64 mc]] w (RetM w [(15, id, P, sn, hu.getD 0 0)]) := by
  have hP2 : decide (P < 0) = false := decide_eq_false (by omega)
  have h0 : 0 < hu.length := List.length_pos_iff.2 hhu
  have h0' : (0 : Int) < hu.length := by omega
  obtain ⟨hb_, ho_, rfl, hcl⟩ := hr hhu
  obtain ⟨y0, HY0⟩ : ∃ y, Hid (hu.getD 0 0 = y) := ⟨_, Lib.hid rfl⟩
  have hy0 : w.cell? ⟨hb_, ho_, none⟩ = some (.int .i64 y0) := by
    have := hcl 0 h0
    rw [Nat.add_zero] at this
    rw [this, ← HY0.out, List.getD_eq_getElem?_getD, List.getElem?_eq_getElem h0]
    rfl
  have hlt0 := World.block_lt_of_cell? w _ hy0
  rw [HY0.out]
  clear hcl hhu hr
  go_enter Try.func12, Try.ntmps12
  go_wp2_with fail
  with_reducible refine (peer_any n id t _ ht).mono ?_
  rw [HP.out]
  rintro e w1 ⟨rfl, rfl⟩
  have X0 := (Blk.new w 24 #[.int .i64 n, .int .i64 id, .int .i64 t, .bool false, .int .i64 sn, .slice (some ⟨hb_, ho_, none⟩) hu.length hc, .slice C 0 cc, .int .i64 0, .int .i64 0, .int .i64 mf, .int .i64 mc]).alloc (.cells #[.slice none 0 0] 28)
  have O0 : Blk ((w.alloc (.cells #[.int .i64 n, .int .i64 id, .int .i64 t, .bool false, .int .i64 sn, .slice (some ⟨hb_, ho_, none⟩) hu.length hc, .slice C 0 cc, .int .i64 0, .int .i64 0, .int .i64 mf, .int .i64 mc] 24)).alloc (.cells #[.slice none 0 0] 28)) (w.heap.size + 1) 28 #[.slice none 0 0] := Blk.new' _ _ (by simp)
  have own0 : OwnM ((w.alloc (.cells #[.int .i64 n, .int .i64 id, .int .i64 t, .bool false, .int .i64 sn, .slice (some ⟨hb_, ho_, none⟩) hu.length hc, .slice C 0 cc, .int .i64 0, .int .i64 0, .int .i64 mf, .int .i64 mc] 24)).alloc (.cells #[.slice none 0 0] 28)) (w.heap.size + 2) none 0 [] := OwnM.none_ _ _
  have bb0 : Below w.heap.size w ((w.alloc (.cells #[.int .i64 n, .int .i64 id, .int .i64 t, .bool false, .int .i64 sn, .slice (some ⟨hb_, ho_, none⟩) hu.length hc, .slice C 0 cc, .int .i64 0, .int .i64 0, .int .i64 mf, .int .i64 mc] 24)).alloc (.cells #[.slice none 0 0] 28)) := bal (bal0 w _) _
  have sz0 : w.heap.size + 2 ≤ ((w.alloc (.cells #[.int .i64 n, .int .i64 id, .int .i64 t, .bool false, .int .i64 sn, .slice (some ⟨hb_, ho_, none⟩) hu.length hc, .slice C 0 cc, .int .i64 0, .int .i64 0, .int .i64 mf, .int .i64 mc] 24)).alloc (.cells #[.slice none 0 0] 28)).heap.size := by simp
  have i0 := X0.c 1 (.int .i64 id) rfl
  go_wp2_with fail
  generalize ((w.alloc (.cells #[.int .i64 n, .int .i64 id, .int .i64 t, .bool false, .int .i64 sn, .slice (some ⟨hb_, ho_, none⟩) hu.length hc, .slice C 0 cc, .int .i64 0, .int .i64 0, .int .i64 mf, .int .i64 mc] 24)).alloc (.cells #[.slice none 0 0] 28)) = W0 at X0 O0 own0 bb0 sz0 i0 ⊢
  have x0 := X0.c 0 (.int .i64 n) rfl
  have x2 := X0.c 2 (.int .i64 t) rfl
  have x3 := X0.c 3 (.bool false) rfl
  have x4 := X0.c 4 (.int .i64 sn) rfl
  have x5 := X0.c 5 (.slice (some ⟨hb_, ho_, none⟩) hu.length hc) rfl
  have x6 := X0.c 6 (.slice C 0 cc) rfl
  have x7 := X0.c 7 (.int .i64 0) rfl
  have x8 := X0.c 8 (.int .i64 0) rfl
  have x9 := X0.c 9 (.int .i64 mf) rfl
  have x10 := X0.c 10 (.int .i64 mc) rfl
  have oc0 := O0.c 0 (.slice none 0 0) rfl
  have hy0_0 : W0.cell? ⟨hb_, ho_, none⟩ = some (.int .i64 y0) := (bb0.cell (p := ⟨hb_, ho_, none⟩) hlt0).trans hy0
  go_still_tail 8, (by kernel_rfl)
  change wpList _ _ _ _ _ W0.drew
  clear x0 x2 x3 x4 x5 x6 x7 x8 x9 x10
  go_wp2_with fail
  have i0d : W0.drew.cell? ⟨w.heap.size, 1, none⟩ = some (.int .i64 id) := i0
  have sz0d : w.heap.size + 2 ≤ W0.drew.heap.size := sz0
  have ln0 : Hid (0 = ([] : List Msg).length) := Lib.hid rfl
  have lm0 : Hid (([] : List Msg).length ≤ 50) := Lib.hid (by rw [← ln0.out]; decide)
  with_reducible refine (ask1_any 15 P sn y0 id (w.heap.size + 1) w.heap.size (w.heap.size + 2) none 0 0 [] _ O0.drew ln0.out own0.drew i0d lm0.out (by omega) sz0d).mono ?_
  rintro e w2 ⟨A1, c1, v1, rfl, hO1, hw1, hb1⟩
  have O1 : Blk w2 (w.heap.size + 1) 28 #[.slice A1 1 c1] := hO1
  have own1 : OwnM w2 (w.heap.size + 2) A1 c1 [(15, id, P, sn, y0)] := hw1
  have X1 := X0.drew.below hb1 (by omega)
  have bb1 : Below w.heap.size w w2 := bb0.drew.trans (hb1.mono (by omega))
  have sz1 : w.heap.size + 2 ≤ w2.heap.size := Nat.le_trans sz0 hb1.size
  have i1 := X1.c 1 (.int .i64 id) rfl
  have x0 := X1.c 0 (.int .i64 n) rfl
  have x2 := X1.c 2 (.int .i64 t) rfl
  have x3 := X1.c 3 (.bool false) rfl
  have x4 := X1.c 4 (.int .i64 sn) rfl
  have x5 := X1.c 5 (.slice (some ⟨hb_, ho_, none⟩) hu.length hc) rfl
  have x6 := X1.c 6 (.slice C 0 cc) rfl
  have x7 := X1.c 7 (.int .i64 0) rfl
  have x8 := X1.c 8 (.int .i64 0) rfl
  have x9 := X1.c 9 (.int .i64 mf) rfl
  have x10 := X1.c 10 (.int .i64 mc) rfl
  have oc1 := O1.c 0 (.slice A1 1 c1) rfl
  have hy0_1 : w2.cell? ⟨hb_, ho_, none⟩ = some (.int .i64 y0) := (bb1.cell (p := ⟨hb_, ho_, none⟩) hlt0).trans hy0
  go_wp2_with fail
  go_ret
  exact ⟨_, _, rfl, own1.mono (by omega), bb1⟩

set_option maxRecDepth 100000 in
set_option maxHeartbeats 1000000 in
theorem ask_Hq01 (n id t sn bh mi mf mc : Int) (H C : Option Addr) (hc cc : Nat) (hu co : List Int) (w : World) (ht : t ≤ 9223372036854775807) (P : Int) (HP : Hid (peerI n id t = P)) (hP : 0 ≤ P) (hhu : hu ≠ []) (hr : RdI w H hu) (hco : co ≠ []) (hrc : RdI w C co) (ht0 : 0 ≤ t) (hcol : co.length ≤ 100) : Calls Try.prog 12 #[.agg #[.int .i64 n, .int .i64 id, .int .i64 t, .bool false, .int .i64 sn, .slice H hu.length hc, .slice C co.length cc, .int .i64 0, .int .i64 0, .int .i64 mf, .int .i64 mc]] w (RetM w [(15, id, P, sn, hu.getD 0 0), (14, id, P, co.getD (t % co.length).toNat 0, 0)]) := by
  have hP2 : decide (P < 0) = false := decide_eq_false (by omega)
  have h0 : 0 < hu.length := List.length_pos_iff.2 hhu
  have h0' : (0 : Int) < hu.length := by omega
  obtain ⟨hb_, ho_, rfl, hcl⟩ := hr hhu
  obtain ⟨y0, HY0⟩ : ∃ y, Hid (hu.getD 0 0 = y) := ⟨_, Lib.hid rfl⟩
  have hy0 : w.cell? ⟨hb_, ho_, none⟩ = some (.int .i64 y0) := by
    have := hcl 0 h0
    rw [Nat.add_zero] at this
    rw [this, ← HY0.out, List.getD_eq_getElem?_getD, List.getElem?_eq_getElem h0]
    rfl
  have hlt0 := World.block_lt_of_cell? w _ hy0
  rw [HY0.out]
  clear hcl hhu hr
  have hc0 : 0 < co.length := List.length_pos_iff.2 hco
  have hc0' : (0 : Int) < co.length := by omega
  obtain ⟨cb_, co_, rfl, hcl⟩ := hrc hco
  have hq0 := Int.emod_nonneg t (show (co.length : Int) ≠ 0 by omega)
  have hq1 := Int.emod_lt_of_pos t hc0'
  obtain ⟨q, hq⟩ : ∃ q : Nat, t % (co.length : Int) = (q : Int) := ⟨(t % (co.length : Int)).toNat, by omega⟩
  have hqn : (t % (co.length : Int)).toNat = q := by omega
  have hqlt : q < co.length := by omega
  have hqt : t.tmod (co.length : Int) = (q : Int) := by rw [Int.tmod_eq_emod_of_nonneg ht0]; exact hq
  have hcn1 : ((co.length : Int) == 0) = false := by rw [beq_eq_false_iff_ne]; omega
  have hcn2 : ¬ co.length = 0 := by omega
  have hcn3 : ¬ co = [] := hco
  have hqw : IntKind.i64.wrap (q : Int) = q := by rw [IntKind.wrap_i64]; omega
  rw [hqn]
  obtain ⟨yc, HYC⟩ : ∃ y, Hid (co.getD q 0 = y) := ⟨_, Lib.hid rfl⟩
  have hyc : w.cell? ⟨cb_, co_ + q, none⟩ = some (.int .i64 yc) := by
    rw [hcl q hqlt, ← HYC.out, List.getD_eq_getElem?_getD, List.getElem?_eq_getElem hqlt]
    rfl
  have hltc := World.block_lt_of_cell? w _ hyc
  have hqi : (q : Int) < co.length := by omega
  rw [HYC.out]
  clear hcl hco hrc hq0 hq1 hqn
  go_enter Try.func12, Try.ntmps12
  go_wp2_with fail
  with_reducible refine (peer_any n id t _ ht).mono ?_
  rw [HP.out]
  rintro e w1 ⟨rfl, rfl⟩
  have X0 := (Blk.new w 24 #[.int .i64 n, .int .i64 id, .int .i64 t, .bool false, .int .i64 sn, .slice (some ⟨hb_, ho_, none⟩) hu.length hc, .slice (some ⟨cb_, co_, none⟩) co.length cc, .int .i64 0, .int .i64 0, .int .i64 mf, .int .i64 mc]).alloc (.cells #[.slice none 0 0] 28)
  have O0 : Blk ((w.alloc (.cells #[.int .i64 n, .int .i64 id, .int .i64 t, .bool false, .int .i64 sn, .slice (some ⟨hb_, ho_, none⟩) hu.length hc, .slice (some ⟨cb_, co_, none⟩) co.length cc, .int .i64 0, .int .i64 0, .int .i64 mf, .int .i64 mc] 24)).alloc (.cells #[.slice none 0 0] 28)) (w.heap.size + 1) 28 #[.slice none 0 0] := Blk.new' _ _ (by simp)
  have own0 : OwnM ((w.alloc (.cells #[.int .i64 n, .int .i64 id, .int .i64 t, .bool false, .int .i64 sn, .slice (some ⟨hb_, ho_, none⟩) hu.length hc, .slice (some ⟨cb_, co_, none⟩) co.length cc, .int .i64 0, .int .i64 0, .int .i64 mf, .int .i64 mc] 24)).alloc (.cells #[.slice none 0 0] 28)) (w.heap.size + 2) none 0 [] := OwnM.none_ _ _
  have bb0 : Below w.heap.size w ((w.alloc (.cells #[.int .i64 n, .int .i64 id, .int .i64 t, .bool false, .int .i64 sn, .slice (some ⟨hb_, ho_, none⟩) hu.length hc, .slice (some ⟨cb_, co_, none⟩) co.length cc, .int .i64 0, .int .i64 0, .int .i64 mf, .int .i64 mc] 24)).alloc (.cells #[.slice none 0 0] 28)) := bal (bal0 w _) _
  have sz0 : w.heap.size + 2 ≤ ((w.alloc (.cells #[.int .i64 n, .int .i64 id, .int .i64 t, .bool false, .int .i64 sn, .slice (some ⟨hb_, ho_, none⟩) hu.length hc, .slice (some ⟨cb_, co_, none⟩) co.length cc, .int .i64 0, .int .i64 0, .int .i64 mf, .int .i64 mc] 24)).alloc (.cells #[.slice none 0 0] 28)).heap.size := by simp
  have i0 := X0.c 1 (.int .i64 id) rfl
  go_wp2_with fail
  generalize ((w.alloc (.cells #[.int .i64 n, .int .i64 id, .int .i64 t, .bool false, .int .i64 sn, .slice (some ⟨hb_, ho_, none⟩) hu.length hc, .slice (some ⟨cb_, co_, none⟩) co.length cc, .int .i64 0, .int .i64 0, .int .i64 mf, .int .i64 mc] 24)).alloc (.cells #[.slice none 0 0] 28)) = W0 at X0 O0 own0 bb0 sz0 i0 ⊢
  have x0 := X0.c 0 (.int .i64 n) rfl
  have x2 := X0.c 2 (.int .i64 t) rfl
  have x3 := X0.c 3 (.bool false) rfl
  have x4 := X0.c 4 (.int .i64 sn) rfl
  have x5 := X0.c 5 (.slice (some ⟨hb_, ho_, none⟩) hu.length hc) rfl
  have x6 := X0.c 6 (.slice (some ⟨cb_, co_, none⟩) co.length cc) rfl
  have x7 := X0.c 7 (.int .i64 0) rfl
  have x8 := X0.c 8 (.int .i64 0) rfl
  have x9 := X0.c 9 (.int .i64 mf) rfl
  have x10 := X0.c 10 (.int .i64 mc) rfl
  have oc0 := O0.c 0 (.slice none 0 0) rfl
  have hy0_0 : W0.cell? ⟨hb_, ho_, none⟩ = some (.int .i64 y0) := (bb0.cell (p := ⟨hb_, ho_, none⟩) hlt0).trans hy0
  have hyc_0 : W0.cell? ⟨cb_, co_ + q, none⟩ = some (.int .i64 yc) := (bb0.cell (p := ⟨cb_, co_ + q, none⟩) hltc).trans hyc
  go_still_tail 8, (by kernel_rfl)
  change wpList _ _ _ _ _ W0.drew
  clear x0 x2 x3 x4 x5 x6 x7 x8 x9 x10
  go_wp2_with fail
  have i0d : W0.drew.cell? ⟨w.heap.size, 1, none⟩ = some (.int .i64 id) := i0
  have sz0d : w.heap.size + 2 ≤ W0.drew.heap.size := sz0
  have ln0 : Hid (0 = ([] : List Msg).length) := Lib.hid rfl
  have lm0 : Hid (([] : List Msg).length ≤ 50) := Lib.hid (by rw [← ln0.out]; decide)
  with_reducible refine (ask1_any 15 P sn y0 id (w.heap.size + 1) w.heap.size (w.heap.size + 2) none 0 0 [] _ O0.drew ln0.out own0.drew i0d lm0.out (by omega) sz0d).mono ?_
  rintro e w2 ⟨A1, c1, v1, rfl, hO1, hw1, hb1⟩
  have O1 : Blk w2 (w.heap.size + 1) 28 #[.slice A1 1 c1] := hO1
  have own1 : OwnM w2 (w.heap.size + 2) A1 c1 [(15, id, P, sn, y0)] := hw1
  have X1 := X0.drew.below hb1 (by omega)
  have bb1 : Below w.heap.size w w2 := bb0.drew.trans (hb1.mono (by omega))
  have sz1 : w.heap.size + 2 ≤ w2.heap.size := Nat.le_trans sz0 hb1.size
  have i1 := X1.c 1 (.int .i64 id) rfl
  have x0 := X1.c 0 (.int .i64 n) rfl
  have x2 := X1.c 2 (.int .i64 t) rfl
  have x3 := X1.c 3 (.bool false) rfl
  have x4 := X1.c 4 (.int .i64 sn) rfl
  have x5 := X1.c 5 (.slice (some ⟨hb_, ho_, none⟩) hu.length hc) rfl
  have x6 := X1.c 6 (.slice (some ⟨cb_, co_, none⟩) co.length cc) rfl
  have x7 := X1.c 7 (.int .i64 0) rfl
  have x8 := X1.c 8 (.int .i64 0) rfl
  have x9 := X1.c 9 (.int .i64 mf) rfl
  have x10 := X1.c 10 (.int .i64 mc) rfl
  have oc1 := O1.c 0 (.slice A1 1 c1) rfl
  have hy0_1 : w2.cell? ⟨hb_, ho_, none⟩ = some (.int .i64 y0) := (bb1.cell (p := ⟨hb_, ho_, none⟩) hlt0).trans hy0
  have hyc_1 : w2.cell? ⟨cb_, co_ + q, none⟩ = some (.int .i64 yc) := (bb1.cell (p := ⟨cb_, co_ + q, none⟩) hltc).trans hyc
  go_wp2_with fail
  go_still_tail 10, (by kernel_rfl)
  change wpList _ _ _ _ _ w2.drew
  go_wp2_with fail
  clear x0 x2 x3 x4 x5 x6 x7 x8 x9 x10
  have i1d : w2.drew.cell? ⟨w.heap.size, 1, none⟩ = some (.int .i64 id) := i1
  have sz1d : w.heap.size + 2 ≤ w2.drew.heap.size := sz1
  have ln1 : Hid (1 = ([(15, id, P, sn, y0)] : List Msg).length) := Lib.hid rfl
  have lm1 : Hid (([(15, id, P, sn, y0)] : List Msg).length ≤ 50) := Lib.hid (by rw [← ln1.out]; decide)
  with_reducible refine (ask1_any 14 P yc 0 id (w.heap.size + 1) w.heap.size (w.heap.size + 2) A1 1 c1 [(15, id, P, sn, y0)] _ O1.drew ln1.out own1.drew i1d lm1.out (by omega) sz1d).mono ?_
  rintro e w3 ⟨A2, c2, v2, rfl, hO2, hw2, hb2⟩
  have O2 : Blk w3 (w.heap.size + 1) 28 #[.slice A2 2 c2] := hO2
  have own2 : OwnM w3 (w.heap.size + 2) A2 c2 [(15, id, P, sn, y0), (14, id, P, yc, 0)] := hw2
  have X2 := X1.drew.below hb2 (by omega)
  have bb2 : Below w.heap.size w w3 := bb1.drew.trans (hb2.mono (by omega))
  have sz2 : w.heap.size + 2 ≤ w3.heap.size := Nat.le_trans sz1 hb2.size
  have i2 := X2.c 1 (.int .i64 id) rfl
  have x0 := X2.c 0 (.int .i64 n) rfl
  have x2 := X2.c 2 (.int .i64 t) rfl
  have x3 := X2.c 3 (.bool false) rfl
  have x4 := X2.c 4 (.int .i64 sn) rfl
  have x5 := X2.c 5 (.slice (some ⟨hb_, ho_, none⟩) hu.length hc) rfl
  have x6 := X2.c 6 (.slice (some ⟨cb_, co_, none⟩) co.length cc) rfl
  have x7 := X2.c 7 (.int .i64 0) rfl
  have x8 := X2.c 8 (.int .i64 0) rfl
  have x9 := X2.c 9 (.int .i64 mf) rfl
  have x10 := X2.c 10 (.int .i64 mc) rfl
  have oc2 := O2.c 0 (.slice A2 2 c2) rfl
  have hy0_2 : w3.cell? ⟨hb_, ho_, none⟩ = some (.int .i64 y0) := (bb2.cell (p := ⟨hb_, ho_, none⟩) hlt0).trans hy0
  have hyc_2 : w3.cell? ⟨cb_, co_ + q, none⟩ = some (.int .i64 yc) := (bb2.cell (p := ⟨cb_, co_ + q, none⟩) hltc).trans hyc
  go_wp2_with fail
  go_ret
  exact ⟨_, _, rfl, own2.mono (by omega), bb2⟩

set_option maxRecDepth 100000 in
set_option maxHeartbeats 1000000 in
theorem ask_Hq10 (n id t sn bh mi mf mc : Int) (H C : Option Addr) (hc cc : Nat) (hu co : List Int) (w : World) (ht : t ≤ 9223372036854775807) (P : Int) (HP : Hid (peerI n id t = P)) (hP : 0 ≤ P) (hhu : hu ≠ []) (hr : RdI w H hu) (hbh : bh ≠ 0) : Calls Try.prog 12 #[.agg #[.int .i64 n, .int .i64 id, .int .i64 t, .bool false, .int .i64 sn, .slice H hu.length hc, .slice C 0 cc, .int .i64 bh, .int .i64 0, .int .i64 mf, .int .i64 mc]] w (RetM w [(15, id, P, sn, hu.getD 0 0), (10, id, P, bh, 0)]) := by
  have hP2 : decide (P < 0) = false := decide_eq_false (by omega)
  have h0 : 0 < hu.length := List.length_pos_iff.2 hhu
  have h0' : (0 : Int) < hu.length := by omega
  obtain ⟨hb_, ho_, rfl, hcl⟩ := hr hhu
  obtain ⟨y0, HY0⟩ : ∃ y, Hid (hu.getD 0 0 = y) := ⟨_, Lib.hid rfl⟩
  have hy0 : w.cell? ⟨hb_, ho_, none⟩ = some (.int .i64 y0) := by
    have := hcl 0 h0
    rw [Nat.add_zero] at this
    rw [this, ← HY0.out, List.getD_eq_getElem?_getD, List.getElem?_eq_getElem h0]
    rfl
  have hlt0 := World.block_lt_of_cell? w _ hy0
  rw [HY0.out]
  clear hcl hhu hr
  have gbh : (bh != 0) = true := by rw [bne_iff_ne]; exact hbh
  clear hbh
  go_enter Try.func12, Try.ntmps12
  go_wp2_with fail
  with_reducible refine (peer_any n id t _ ht).mono ?_
  rw [HP.out]
  rintro e w1 ⟨rfl, rfl⟩
  have X0 := (Blk.new w 24 #[.int .i64 n, .int .i64 id, .int .i64 t, .bool false, .int .i64 sn, .slice (some ⟨hb_, ho_, none⟩) hu.length hc, .slice C 0 cc, .int .i64 bh, .int .i64 0, .int .i64 mf, .int .i64 mc]).alloc (.cells #[.slice none 0 0] 28)
  have O0 : Blk ((w.alloc (.cells #[.int .i64 n, .int .i64 id, .int .i64 t, .bool false, .int .i64 sn, .slice (some ⟨hb_, ho_, none⟩) hu.length hc, .slice C 0 cc, .int .i64 bh, .int .i64 0, .int .i64 mf, .int .i64 mc] 24)).alloc (.cells #[.slice none 0 0] 28)) (w.heap.size + 1) 28 #[.slice none 0 0] := Blk.new' _ _ (by simp)
  have own0 : OwnM ((w.alloc (.cells #[.int .i64 n, .int .i64 id, .int .i64 t, .bool false, .int .i64 sn, .slice (some ⟨hb_, ho_, none⟩) hu.length hc, .slice C 0 cc, .int .i64 bh, .int .i64 0, .int .i64 mf, .int .i64 mc] 24)).alloc (.cells #[.slice none 0 0] 28)) (w.heap.size + 2) none 0 [] := OwnM.none_ _ _
  have bb0 : Below w.heap.size w ((w.alloc (.cells #[.int .i64 n, .int .i64 id, .int .i64 t, .bool false, .int .i64 sn, .slice (some ⟨hb_, ho_, none⟩) hu.length hc, .slice C 0 cc, .int .i64 bh, .int .i64 0, .int .i64 mf, .int .i64 mc] 24)).alloc (.cells #[.slice none 0 0] 28)) := bal (bal0 w _) _
  have sz0 : w.heap.size + 2 ≤ ((w.alloc (.cells #[.int .i64 n, .int .i64 id, .int .i64 t, .bool false, .int .i64 sn, .slice (some ⟨hb_, ho_, none⟩) hu.length hc, .slice C 0 cc, .int .i64 bh, .int .i64 0, .int .i64 mf, .int .i64 mc] 24)).alloc (.cells #[.slice none 0 0] 28)).heap.size := by simp
  have i0 := X0.c 1 (.int .i64 id) rfl
  go_wp2_with fail
  generalize ((w.alloc (.cells #[.int .i64 n, .int .i64 id, .int .i64 t, .bool false, .int .i64 sn, .slice (some ⟨hb_, ho_, none⟩) hu.length hc, .slice C 0 cc, .int .i64 bh, .int .i64 0, .int .i64 mf, .int .i64 mc] 24)).alloc (.cells #[.slice none 0 0] 28)) = W0 at X0 O0 own0 bb0 sz0 i0 ⊢
  have x0 := X0.c 0 (.int .i64 n) rfl
  have x2 := X0.c 2 (.int .i64 t) rfl
  have x3 := X0.c 3 (.bool false) rfl
  have x4 := X0.c 4 (.int .i64 sn) rfl
  have x5 := X0.c 5 (.slice (some ⟨hb_, ho_, none⟩) hu.length hc) rfl
  have x6 := X0.c 6 (.slice C 0 cc) rfl
  have x7 := X0.c 7 (.int .i64 bh) rfl
  have x8 := X0.c 8 (.int .i64 0) rfl
  have x9 := X0.c 9 (.int .i64 mf) rfl
  have x10 := X0.c 10 (.int .i64 mc) rfl
  have oc0 := O0.c 0 (.slice none 0 0) rfl
  have hy0_0 : W0.cell? ⟨hb_, ho_, none⟩ = some (.int .i64 y0) := (bb0.cell (p := ⟨hb_, ho_, none⟩) hlt0).trans hy0
  go_still_tail 8, (by kernel_rfl)
  change wpList _ _ _ _ _ W0.drew
  clear x0 x2 x3 x4 x5 x6 x7 x8 x9 x10
  go_wp2_with fail
  have i0d : W0.drew.cell? ⟨w.heap.size, 1, none⟩ = some (.int .i64 id) := i0
  have sz0d : w.heap.size + 2 ≤ W0.drew.heap.size := sz0
  have ln0 : Hid (0 = ([] : List Msg).length) := Lib.hid rfl
  have lm0 : Hid (([] : List Msg).length ≤ 50) := Lib.hid (by rw [← ln0.out]; decide)
  with_reducible refine (ask1_any 15 P sn y0 id (w.heap.size + 1) w.heap.size (w.heap.size + 2) none 0 0 [] _ O0.drew ln0.out own0.drew i0d lm0.out (by omega) sz0d).mono ?_
  rintro e w2 ⟨A1, c1, v1, rfl, hO1, hw1, hb1⟩
  have O1 : Blk w2 (w.heap.size + 1) 28 #[.slice A1 1 c1] := hO1
  have own1 : OwnM w2 (w.heap.size + 2) A1 c1 [(15, id, P, sn, y0)] := hw1
  have X1 := X0.drew.below hb1 (by omega)
  have bb1 : Below w.heap.size w w2 := bb0.drew.trans (hb1.mono (by omega))
  have sz1 : w.heap.size + 2 ≤ w2.heap.size := Nat.le_trans sz0 hb1.size
  have i1 := X1.c 1 (.int .i64 id) rfl
  have x0 := X1.c 0 (.int .i64 n) rfl
  have x2 := X1.c 2 (.int .i64 t) rfl
  have x3 := X1.c 3 (.bool false) rfl
  have x4 := X1.c 4 (.int .i64 sn) rfl
  have x5 := X1.c 5 (.slice (some ⟨hb_, ho_, none⟩) hu.length hc) rfl
  have x6 := X1.c 6 (.slice C 0 cc) rfl
  have x7 := X1.c 7 (.int .i64 bh) rfl
  have x8 := X1.c 8 (.int .i64 0) rfl
  have x9 := X1.c 9 (.int .i64 mf) rfl
  have x10 := X1.c 10 (.int .i64 mc) rfl
  have oc1 := O1.c 0 (.slice A1 1 c1) rfl
  have hy0_1 : w2.cell? ⟨hb_, ho_, none⟩ = some (.int .i64 y0) := (bb1.cell (p := ⟨hb_, ho_, none⟩) hlt0).trans hy0
  go_wp2_with fail
  clear x0 x2 x3 x4 x5 x6 x7 x8 x9 x10
  have ln1 : Hid (1 = ([(15, id, P, sn, y0)] : List Msg).length) := Lib.hid rfl
  have lm1 : Hid (([(15, id, P, sn, y0)] : List Msg).length ≤ 50) := Lib.hid (by rw [← ln1.out]; decide)
  with_reducible refine (ask1_any 10 P bh 0 id (w.heap.size + 1) w.heap.size (w.heap.size + 2) A1 1 c1 [(15, id, P, sn, y0)] _ O1 ln1.out own1 i1 lm1.out (by omega) sz1).mono ?_
  rintro e w3 ⟨A2, c2, v2, rfl, hO2, hw2, hb2⟩
  have O2 : Blk w3 (w.heap.size + 1) 28 #[.slice A2 2 c2] := hO2
  have own2 : OwnM w3 (w.heap.size + 2) A2 c2 [(15, id, P, sn, y0), (10, id, P, bh, 0)] := hw2
  have X2 := X1.below hb2 (by omega)
  have bb2 : Below w.heap.size w w3 := bb1.trans (hb2.mono (by omega))
  have sz2 : w.heap.size + 2 ≤ w3.heap.size := Nat.le_trans sz1 hb2.size
  have i2 := X2.c 1 (.int .i64 id) rfl
  have x0 := X2.c 0 (.int .i64 n) rfl
  have x2 := X2.c 2 (.int .i64 t) rfl
  have x3 := X2.c 3 (.bool false) rfl
  have x4 := X2.c 4 (.int .i64 sn) rfl
  have x5 := X2.c 5 (.slice (some ⟨hb_, ho_, none⟩) hu.length hc) rfl
  have x6 := X2.c 6 (.slice C 0 cc) rfl
  have x7 := X2.c 7 (.int .i64 bh) rfl
  have x8 := X2.c 8 (.int .i64 0) rfl
  have x9 := X2.c 9 (.int .i64 mf) rfl
  have x10 := X2.c 10 (.int .i64 mc) rfl
  have oc2 := O2.c 0 (.slice A2 2 c2) rfl
  have hy0_2 : w3.cell? ⟨hb_, ho_, none⟩ = some (.int .i64 y0) := (bb2.cell (p := ⟨hb_, ho_, none⟩) hlt0).trans hy0
  go_wp2_with fail
  go_ret
  exact ⟨_, _, rfl, own2.mono (by omega), bb2⟩

set_option maxRecDepth 100000 in
set_option maxHeartbeats 1000000 in
theorem ask_Hq11 (n id t sn bh mi mf mc : Int) (H C : Option Addr) (hc cc : Nat) (hu co : List Int) (w : World) (ht : t ≤ 9223372036854775807) (P : Int) (HP : Hid (peerI n id t = P)) (hP : 0 ≤ P) (hhu : hu ≠ []) (hr : RdI w H hu) (hbh : bh ≠ 0) (hco : co ≠ []) (hrc : RdI w C co) (ht0 : 0 ≤ t) (hcol : co.length ≤ 100) : Calls Try.prog 12 #[.agg #[.int .i64 n, .int .i64 id, .int .i64 t, .bool false, .int .i64 sn, .slice H hu.length hc, .slice C co.length cc, .int .i64 bh, .int .i64 0, .int .i64 mf, .int .i64 mc]] w (RetM w [(15, id, P, sn, hu.getD 0 0), (10, id, P, bh, 0), (14, id, P, co.getD (t % co.length).toNat 0, 0)]) := by
  have hP2 : decide (P < 0) = false := decide_eq_false (by omega)
  have h0 : 0 < hu.length := List.length_pos_iff.2 hhu
  have h0' : (0 : Int) < hu.length := by omega
  obtain ⟨hb_, ho_, rfl, hcl⟩ := hr hhu
  obtain ⟨y0, HY0⟩ : ∃ y, Hid (hu.getD 0 0 = y) := ⟨_, Lib.hid rfl⟩
  have hy0 : w.cell? ⟨hb_, ho_, none⟩ = some (.int .i64 y0) := by
    have := hcl 0 h0
    rw [Nat.add_zero] at this
    rw [this, ← HY0.out, List.getD_eq_getElem?_getD, List.getElem?_eq_getElem h0]
    rfl
  have hlt0 := World.block_lt_of_cell? w _ hy0
  rw [HY0.out]
  clear hcl hhu hr
  have gbh : (bh != 0) = true := by rw [bne_iff_ne]; exact hbh
  clear hbh
  have hc0 : 0 < co.length := List.length_pos_iff.2 hco
  have hc0' : (0 : Int) < co.length := by omega
  obtain ⟨cb_, co_, rfl, hcl⟩ := hrc hco
  have hq0 := Int.emod_nonneg t (show (co.length : Int) ≠ 0 by omega)
  have hq1 := Int.emod_lt_of_pos t hc0'
  obtain ⟨q, hq⟩ : ∃ q : Nat, t % (co.length : Int) = (q : Int) := ⟨(t % (co.length : Int)).toNat, by omega⟩
  have hqn : (t % (co.length : Int)).toNat = q := by omega
  have hqlt : q < co.length := by omega
  have hqt : t.tmod (co.length : Int) = (q : Int) := by rw [Int.tmod_eq_emod_of_nonneg ht0]; exact hq
  have hcn1 : ((co.length : Int) == 0) = false := by rw [beq_eq_false_iff_ne]; omega
  have hcn2 : ¬ co.length = 0 := by omega
  have hcn3 : ¬ co = [] := hco
  have hqw : IntKind.i64.wrap (q : Int) = q := by rw [IntKind.wrap_i64]; omega
  rw [hqn]
  obtain ⟨yc, HYC⟩ : ∃ y, Hid (co.getD q 0 = y) := ⟨_, Lib.hid rfl⟩
  have hyc : w.cell? ⟨cb_, co_ + q, none⟩ = some (.int .i64 yc) := by
    rw [hcl q hqlt, ← HYC.out, List.getD_eq_getElem?_getD, List.getElem?_eq_getElem hqlt]
    rfl
  have hltc := World.block_lt_of_cell? w _ hyc
  have hqi : (q : Int) < co.length := by omega
  rw [HYC.out]
  clear hcl hco hrc hq0 hq1 hqn
  go_enter Try.func12, Try.ntmps12
  go_wp2_with fail
  with_reducible refine (peer_any n id t _ ht).mono ?_
  rw [HP.out]
  rintro e w1 ⟨rfl, rfl⟩
  have X0 := (Blk.new w 24 #[.int .i64 n, .int .i64 id, .int .i64 t, .bool false, .int .i64 sn, .slice (some ⟨hb_, ho_, none⟩) hu.length hc, .slice (some ⟨cb_, co_, none⟩) co.length cc, .int .i64 bh, .int .i64 0, .int .i64 mf, .int .i64 mc]).alloc (.cells #[.slice none 0 0] 28)
  have O0 : Blk ((w.alloc (.cells #[.int .i64 n, .int .i64 id, .int .i64 t, .bool false, .int .i64 sn, .slice (some ⟨hb_, ho_, none⟩) hu.length hc, .slice (some ⟨cb_, co_, none⟩) co.length cc, .int .i64 bh, .int .i64 0, .int .i64 mf, .int .i64 mc] 24)).alloc (.cells #[.slice none 0 0] 28)) (w.heap.size + 1) 28 #[.slice none 0 0] := Blk.new' _ _ (by simp)
  have own0 : OwnM ((w.alloc (.cells #[.int .i64 n, .int .i64 id, .int .i64 t, .bool false, .int .i64 sn, .slice (some ⟨hb_, ho_, none⟩) hu.length hc, .slice (some ⟨cb_, co_, none⟩) co.length cc, .int .i64 bh, .int .i64 0, .int .i64 mf, .int .i64 mc] 24)).alloc (.cells #[.slice none 0 0] 28)) (w.heap.size + 2) none 0 [] := OwnM.none_ _ _
  have bb0 : Below w.heap.size w ((w.alloc (.cells #[.int .i64 n, .int .i64 id, .int .i64 t, .bool false, .int .i64 sn, .slice (some ⟨hb_, ho_, none⟩) hu.length hc, .slice (some ⟨cb_, co_, none⟩) co.length cc, .int .i64 bh, .int .i64 0, .int .i64 mf, .int .i64 mc] 24)).alloc (.cells #[.slice none 0 0] 28)) := bal (bal0 w _) _
  have sz0 : w.heap.size + 2 ≤ ((w.alloc (.cells #[.int .i64 n, .int .i64 id, .int .i64 t, .bool false, .int .i64 sn, .slice (some ⟨hb_, ho_, none⟩) hu.length hc, .slice (some ⟨cb_, co_, none⟩) co.length cc, .int .i64 bh, .int .i64 0, .int .i64 mf, .int .i64 mc] 24)).alloc (.cells #[.slice none 0 0] 28)).heap.size := by simp
  have i0 := X0.c 1 (.int .i64 id) rfl
  go_wp2_with fail
  generalize ((w.alloc (.cells #[.int .i64 n, .int .i64 id, .int .i64 t, .bool false, .int .i64 sn, .slice (some ⟨hb_, ho_, none⟩) hu.length hc, .slice (some ⟨cb_, co_, none⟩) co.length cc, .int .i64 bh, .int .i64 0, .int .i64 mf, .int .i64 mc] 24)).alloc (.cells #[.slice none 0 0] 28)) = W0 at X0 O0 own0 bb0 sz0 i0 ⊢
  have x0 := X0.c 0 (.int .i64 n) rfl
  have x2 := X0.c 2 (.int .i64 t) rfl
  have x3 := X0.c 3 (.bool false) rfl
  have x4 := X0.c 4 (.int .i64 sn) rfl
  have x5 := X0.c 5 (.slice (some ⟨hb_, ho_, none⟩) hu.length hc) rfl
  have x6 := X0.c 6 (.slice (some ⟨cb_, co_, none⟩) co.length cc) rfl
  have x7 := X0.c 7 (.int .i64 bh) rfl
  have x8 := X0.c 8 (.int .i64 0) rfl
  have x9 := X0.c 9 (.int .i64 mf) rfl
  have x10 := X0.c 10 (.int .i64 mc) rfl
  have oc0 := O0.c 0 (.slice none 0 0) rfl
  have hy0_0 : W0.cell? ⟨hb_, ho_, none⟩ = some (.int .i64 y0) := (bb0.cell (p := ⟨hb_, ho_, none⟩) hlt0).trans hy0
  have hyc_0 : W0.cell? ⟨cb_, co_ + q, none⟩ = some (.int .i64 yc) := (bb0.cell (p := ⟨cb_, co_ + q, none⟩) hltc).trans hyc
  go_still_tail 8, (by kernel_rfl)
  change wpList _ _ _ _ _ W0.drew
  clear x0 x2 x3 x4 x5 x6 x7 x8 x9 x10
  go_wp2_with fail
  have i0d : W0.drew.cell? ⟨w.heap.size, 1, none⟩ = some (.int .i64 id) := i0
  have sz0d : w.heap.size + 2 ≤ W0.drew.heap.size := sz0
  have ln0 : Hid (0 = ([] : List Msg).length) := Lib.hid rfl
  have lm0 : Hid (([] : List Msg).length ≤ 50) := Lib.hid (by rw [← ln0.out]; decide)
  with_reducible refine (ask1_any 15 P sn y0 id (w.heap.size + 1) w.heap.size (w.heap.size + 2) none 0 0 [] _ O0.drew ln0.out own0.drew i0d lm0.out (by omega) sz0d).mono ?_
  rintro e w2 ⟨A1, c1, v1, rfl, hO1, hw1, hb1⟩
  have O1 : Blk w2 (w.heap.size + 1) 28 #[.slice A1 1 c1] := hO1
  have own1 : OwnM w2 (w.heap.size + 2) A1 c1 [(15, id, P, sn, y0)] := hw1
  have X1 := X0.drew.below hb1 (by omega)
  have bb1 : Below w.heap.size w w2 := bb0.drew.trans (hb1.mono (by omega))
  have sz1 : w.heap.size + 2 ≤ w2.heap.size := Nat.le_trans sz0 hb1.size
  have i1 := X1.c 1 (.int .i64 id) rfl
  have x0 := X1.c 0 (.int .i64 n) rfl
  have x2 := X1.c 2 (.int .i64 t) rfl
  have x3 := X1.c 3 (.bool false) rfl
  have x4 := X1.c 4 (.int .i64 sn) rfl
  have x5 := X1.c 5 (.slice (some ⟨hb_, ho_, none⟩) hu.length hc) rfl
  have x6 := X1.c 6 (.slice (some ⟨cb_, co_, none⟩) co.length cc) rfl
  have x7 := X1.c 7 (.int .i64 bh) rfl
  have x8 := X1.c 8 (.int .i64 0) rfl
  have x9 := X1.c 9 (.int .i64 mf) rfl
  have x10 := X1.c 10 (.int .i64 mc) rfl
  have oc1 := O1.c 0 (.slice A1 1 c1) rfl
  have hy0_1 : w2.cell? ⟨hb_, ho_, none⟩ = some (.int .i64 y0) := (bb1.cell (p := ⟨hb_, ho_, none⟩) hlt0).trans hy0
  have hyc_1 : w2.cell? ⟨cb_, co_ + q, none⟩ = some (.int .i64 yc) := (bb1.cell (p := ⟨cb_, co_ + q, none⟩) hltc).trans hyc
  go_wp2_with fail
  clear x0 x2 x3 x4 x5 x6 x7 x8 x9 x10
  have ln1 : Hid (1 = ([(15, id, P, sn, y0)] : List Msg).length) := Lib.hid rfl
  have lm1 : Hid (([(15, id, P, sn, y0)] : List Msg).length ≤ 50) := Lib.hid (by rw [← ln1.out]; decide)
  with_reducible refine (ask1_any 10 P bh 0 id (w.heap.size + 1) w.heap.size (w.heap.size + 2) A1 1 c1 [(15, id, P, sn, y0)] _ O1 ln1.out own1 i1 lm1.out (by omega) sz1).mono ?_
  rintro e w3 ⟨A2, c2, v2, rfl, hO2, hw2, hb2⟩
  have O2 : Blk w3 (w.heap.size + 1) 28 #[.slice A2 2 c2] := hO2
  have own2 : OwnM w3 (w.heap.size + 2) A2 c2 [(15, id, P, sn, y0), (10, id, P, bh, 0)] := hw2
  have X2 := X1.below hb2 (by omega)
  have bb2 : Below w.heap.size w w3 := bb1.trans (hb2.mono (by omega))
  have sz2 : w.heap.size + 2 ≤ w3.heap.size := Nat.le_trans sz1 hb2.size
  have i2 := X2.c 1 (.int .i64 id) rfl
  have x0 := X2.c 0 (.int .i64 n) rfl
  have x2 := X2.c 2 (.int .i64 t) rfl
  have x3 := X2.c 3 (.bool false) rfl
  have x4 := X2.c 4 (.int .i64 sn) rfl
  have x5 := X2.c 5 (.slice (some ⟨hb_, ho_, none⟩) hu.length hc) rfl
  have x6 := X2.c 6 (.slice (some ⟨cb_, co_, none⟩) co.length cc) rfl
  have x7 := X2.c 7 (.int .i64 bh) rfl
  have x8 := X2.c 8 (.int .i64 0) rfl
  have x9 := X2.c 9 (.int .i64 mf) rfl
  have x10 := X2.c 10 (.int .i64 mc) rfl
  have oc2 := O2.c 0 (.slice A2 2 c2) rfl
  have hy0_2 : w3.cell? ⟨hb_, ho_, none⟩ = some (.int .i64 y0) := (bb2.cell (p := ⟨hb_, ho_, none⟩) hlt0).trans hy0
  have hyc_2 : w3.cell? ⟨cb_, co_ + q, none⟩ = some (.int .i64 yc) := (bb2.cell (p := ⟨cb_, co_ + q, none⟩) hltc).trans hyc
  go_wp2_with fail
  go_still_tail 10, (by kernel_rfl)
  change wpList _ _ _ _ _ w3.drew
  go_wp2_with fail
  clear x0 x2 x3 x4 x5 x6 x7 x8 x9 x10
  have i2d : w3.drew.cell? ⟨w.heap.size, 1, none⟩ = some (.int .i64 id) := i2
  have sz2d : w.heap.size + 2 ≤ w3.drew.heap.size := sz2
  have ln2 : Hid (2 = ([(15, id, P, sn, y0), (10, id, P, bh, 0)] : List Msg).length) := Lib.hid rfl
  have lm2 : Hid (([(15, id, P, sn, y0), (10, id, P, bh, 0)] : List Msg).length ≤ 50) := Lib.hid (by rw [← ln2.out]; decide)
  with_reducible refine (ask1_any 14 P yc 0 id (w.heap.size + 1) w.heap.size (w.heap.size + 2) A2 2 c2 [(15, id, P, sn, y0), (10, id, P, bh, 0)] _ O2.drew ln2.out own2.drew i2d lm2.out (by omega) sz2d).mono ?_
  rintro e w4 ⟨A3, c3, v3, rfl, hO3, hw3, hb3⟩
  have O3 : Blk w4 (w.heap.size + 1) 28 #[.slice A3 3 c3] := hO3
  have own3 : OwnM w4 (w.heap.size + 2) A3 c3 [(15, id, P, sn, y0), (10, id, P, bh, 0), (14, id, P, yc, 0)] := hw3
  have X3 := X2.drew.below hb3 (by omega)
  have bb3 : Below w.heap.size w w4 := bb2.drew.trans (hb3.mono (by omega))
  have sz3 : w.heap.size + 2 ≤ w4.heap.size := Nat.le_trans sz2 hb3.size
  have i3 := X3.c 1 (.int .i64 id) rfl
  have x0 := X3.c 0 (.int .i64 n) rfl
  have x2 := X3.c 2 (.int .i64 t) rfl
  have x3 := X3.c 3 (.bool false) rfl
  have x4 := X3.c 4 (.int .i64 sn) rfl
  have x5 := X3.c 5 (.slice (some ⟨hb_, ho_, none⟩) hu.length hc) rfl
  have x6 := X3.c 6 (.slice (some ⟨cb_, co_, none⟩) co.length cc) rfl
  have x7 := X3.c 7 (.int .i64 bh) rfl
  have x8 := X3.c 8 (.int .i64 0) rfl
  have x9 := X3.c 9 (.int .i64 mf) rfl
  have x10 := X3.c 10 (.int .i64 mc) rfl
  have oc3 := O3.c 0 (.slice A3 3 c3) rfl
  have hy0_3 : w4.cell? ⟨hb_, ho_, none⟩ = some (.int .i64 y0) := (bb3.cell (p := ⟨hb_, ho_, none⟩) hlt0).trans hy0
  have hyc_3 : w4.cell? ⟨cb_, co_ + q, none⟩ = some (.int .i64 yc) := (bb3.cell (p := ⟨cb_, co_ + q, none⟩) hltc).trans hyc
  go_wp2_with fail
  go_ret
  exact ⟨_, _, rfl, own3.mono (by omega), bb3⟩

set_option maxRecDepth 100000 in
set_option maxHeartbeats 1000000 in
theorem ask_Np00 (n id t sn bh mi mf mc : Int) (H C : Option Addr) (hc cc : Nat) (hu co : List Int) (w : World) (ht : t ≤ 9223372036854775807) (P : Int) (HP : Hid (peerI n id t = P)) (hP : 0 ≤ P) : Calls Try.prog 12 #[.agg #[.int .i64 n, .int .i64 id, .int .i64 t, .bool true, .int .i64 sn, .slice H hu.length hc, .slice C co.length cc, .int .i64 0, .int .i64 0, .int .i64 mf, .int .i64 mc]] w (RetM w []) := by
  have hP2 : decide (P < 0) = false := decide_eq_false (by omega)
  go_enter Try.func12, Try.ntmps12
  go_wp2_with fail
  with_reducible refine (peer_any n id t _ ht).mono ?_
  rw [HP.out]
  rintro e w1 ⟨rfl, rfl⟩
  have X0 := (Blk.new w 24 #[.int .i64 n, .int .i64 id, .int .i64 t, .bool true, .int .i64 sn, .slice H hu.length hc, .slice C co.length cc, .int .i64 0, .int .i64 0, .int .i64 mf, .int .i64 mc]).alloc (.cells #[.slice none 0 0] 28)
  have O0 : Blk ((w.alloc (.cells #[.int .i64 n, .int .i64 id, .int .i64 t, .bool true, .int .i64 sn, .slice H hu.length hc, .slice C co.length cc, .int .i64 0, .int .i64 0, .int .i64 mf, .int .i64 mc] 24)).alloc (.cells #[.slice none 0 0] 28)) (w.heap.size + 1) 28 #[.slice none 0 0] := Blk.new' _ _ (by simp)
  have own0 : OwnM ((w.alloc (.cells #[.int .i64 n, .int .i64 id, .int .i64 t, .bool true, .int .i64 sn, .slice H hu.length hc, .slice C co.length cc, .int .i64 0, .int .i64 0, .int .i64 mf, .int .i64 mc] 24)).alloc (.cells #[.slice none 0 0] 28)) (w.heap.size + 2) none 0 [] := OwnM.none_ _ _
  have bb0 : Below w.heap.size w ((w.alloc (.cells #[.int .i64 n, .int .i64 id, .int .i64 t, .bool true, .int .i64 sn, .slice H hu.length hc, .slice C co.length cc, .int .i64 0, .int .i64 0, .int .i64 mf, .int .i64 mc] 24)).alloc (.cells #[.slice none 0 0] 28)) := bal (bal0 w _) _
  have sz0 : w.heap.size + 2 ≤ ((w.alloc (.cells #[.int .i64 n, .int .i64 id, .int .i64 t, .bool true, .int .i64 sn, .slice H hu.length hc, .slice C co.length cc, .int .i64 0, .int .i64 0, .int .i64 mf, .int .i64 mc] 24)).alloc (.cells #[.slice none 0 0] 28)).heap.size := by simp
  have i0 := X0.c 1 (.int .i64 id) rfl
  go_wp2_with fail
  go_ret
  exact ⟨_, _, rfl, own0.mono (by omega), bb0⟩

set_option maxRecDepth 100000 in
set_option maxHeartbeats 1000000 in
theorem ask_Np10 (n id t sn bh mi mf mc : Int) (H C : Option Addr) (hc cc : Nat) (hu co : List Int) (w : World) (ht : t ≤ 9223372036854775807) (P : Int) (HP : Hid (peerI n id t = P)) (hP : 0 ≤ P) (hbh : bh ≠ 0) : Calls Try.prog 12 #[.agg #[.int .i64 n, .int .i64 id, .int .i64 t, .bool true, .int .i64 sn, .slice H hu.length hc, .slice C co.length cc, .int .i64 bh, .int .i64 0, .int .i64 mf, .int .i64 mc]] w (RetM w [(10, id, P, bh, 0)]) := by
  have hP2 : decide (P < 0) = false := decide_eq_false (by omega)
  have gbh : (bh != 0) = true := by rw [bne_iff_ne]; exact hbh
  clear hbh
  go_enter Try.func12, Try.ntmps12
  go_wp2_with fail
  with_reducible refine (peer_any n id t _ ht).mono ?_
  rw [HP.out]
  rintro e w1 ⟨rfl, rfl⟩
  have X0 := (Blk.new w 24 #[.int .i64 n, .int .i64 id, .int .i64 t, .bool true, .int .i64 sn, .slice H hu.length hc, .slice C co.length cc, .int .i64 bh, .int .i64 0, .int .i64 mf, .int .i64 mc]).alloc (.cells #[.slice none 0 0] 28)
  have O0 : Blk ((w.alloc (.cells #[.int .i64 n, .int .i64 id, .int .i64 t, .bool true, .int .i64 sn, .slice H hu.length hc, .slice C co.length cc, .int .i64 bh, .int .i64 0, .int .i64 mf, .int .i64 mc] 24)).alloc (.cells #[.slice none 0 0] 28)) (w.heap.size + 1) 28 #[.slice none 0 0] := Blk.new' _ _ (by simp)
  have own0 : OwnM ((w.alloc (.cells #[.int .i64 n, .int .i64 id, .int .i64 t, .bool true, .int .i64 sn, .slice H hu.length hc, .slice C co.length cc, .int .i64 bh, .int .i64 0, .int .i64 mf, .int .i64 mc] 24)).alloc (.cells #[.slice none 0 0] 28)) (w.heap.size + 2) none 0 [] := OwnM.none_ _ _
  have bb0 : Below w.heap.size w ((w.alloc (.cells #[.int .i64 n, .int .i64 id, .int .i64 t, .bool true, .int .i64 sn, .slice H hu.length hc, .slice C co.length cc, .int .i64 bh, .int .i64 0, .int .i64 mf, .int .i64 mc] 24)).alloc (.cells #[.slice none 0 0] 28)) := bal (bal0 w _) _
  have sz0 : w.heap.size + 2 ≤ ((w.alloc (.cells #[.int .i64 n, .int .i64 id, .int .i64 t, .bool true, .int .i64 sn, .slice H hu.length hc, .slice C co.length cc, .int .i64 bh, .int .i64 0, .int .i64 mf, .int .i64 mc] 24)).alloc (.cells #[.slice none 0 0] 28)).heap.size := by simp
  have i0 := X0.c 1 (.int .i64 id) rfl
  go_wp2_with fail
  have ln0 : Hid (0 = ([] : List Msg).length) := Lib.hid rfl
  have lm0 : Hid (([] : List Msg).length ≤ 50) := Lib.hid (by rw [← ln0.out]; decide)
  with_reducible refine (ask1_any 10 P bh 0 id (w.heap.size + 1) w.heap.size (w.heap.size + 2) none 0 0 [] _ O0 ln0.out own0 i0 lm0.out (by omega) sz0).mono ?_
  rintro e w2 ⟨A1, c1, v1, rfl, hO1, hw1, hb1⟩
  have O1 : Blk w2 (w.heap.size + 1) 28 #[.slice A1 1 c1] := hO1
  have own1 : OwnM w2 (w.heap.size + 2) A1 c1 [(10, id, P, bh, 0)] := hw1
  have X1 := X0.below hb1 (by omega)
  have bb1 : Below w.heap.size w w2 := bb0.trans (hb1.mono (by omega))
  have sz1 : w.heap.size + 2 ≤ w2.heap.size := Nat.le_trans sz0 hb1.size
  have i1 := X1.c 1 (.int .i64 id) rfl
  have x0 := X1.c 0 (.int .i64 n) rfl
  have x2 := X1.c 2 (.int .i64 t) rfl
  have x3 := X1.c 3 (.bool true) rfl
  have x4 := X1.c 4 (.int .i64 sn) rfl
  have x5 := X1.c 5 (.slice H hu.length hc) rfl
  have x6 := X1.c 6 (.slice C co.length cc) rfl
  have x7 := X1.c 7 (.int .i64 bh) rfl
  have x8 := X1.c 8 (.int .i64 0) rfl
  have x9 := X1.c 9 (.int .i64 mf) rfl
  have x10 := X1.c 10 (.int .i64 mc) rfl
  have oc1 := O1.c 0 (.slice A1 1 c1) rfl
  go_wp2_with fail
  go_ret
  exact ⟨_, _, rfl, own1.mono (by omega), bb1⟩

set_option maxRecDepth 100000 in
set_option maxHeartbeats 1000000 in
theorem ask_Nq00 (n id t sn bh mi mf mc : Int) (H C : Option Addr) (hc cc : Nat) (hu co : List Int) (w : World) (ht : t ≤ 9223372036854775807) (P : Int) (HP : Hid (peerI n id t = P)) (hP : 0 ≤ P) : Calls Try.prog 12 #[.agg #[.int .i64 n, .int .i64 id, .int .i64 t, .bool false, .int .i64 sn, .slice H 0 hc, .slice C 0 cc, .int .i64 0, .int .i64 0, .int .i64 mf, .int .i64 mc]] w (RetM w []) := by
  have hP2 : decide (P < 0) = false := decide_eq_false (by omega)
  go_enter Try.func12, Try.ntmps12
  go_wp2_with fail
  with_reducible refine (peer_any n id t _ ht).mono ?_
  rw [HP.out]
  rintro e w1 ⟨rfl, rfl⟩
  have X0 := (Blk.new w 24 #[.int .i64 n, .int .i64 id, .int .i64 t, .bool false, .int .i64 sn, .slice H 0 hc, .slice C 0 cc, .int .i64 0, .int .i64 0, .int .i64 mf, .int .i64 mc]).alloc (.cells #[.slice none 0 0] 28)
  have O0 : Blk ((w.alloc (.cells #[.int .i64 n, .int .i64 id, .int .i64 t, .bool false, .int .i64 sn, .slice H 0 hc, .slice C 0 cc, .int .i64 0, .int .i64 0, .int .i64 mf, .int .i64 mc] 24)).alloc (.cells #[.slice none 0 0] 28)) (w.heap.size + 1) 28 #[.slice none 0 0] := Blk.new' _ _ (by simp)
  have own0 : OwnM ((w.alloc (.cells #[.int .i64 n, .int .i64 id, .int .i64 t, .bool false, .int .i64 sn, .slice H 0 hc, .slice C 0 cc, .int .i64 0, .int .i64 0, .int .i64 mf, .int .i64 mc] 24)).alloc (.cells #[.slice none 0 0] 28)) (w.heap.size + 2) none 0 [] := OwnM.none_ _ _
  have bb0 : Below w.heap.size w ((w.alloc (.cells #[.int .i64 n, .int .i64 id, .int .i64 t, .bool false, .int .i64 sn, .slice H 0 hc, .slice C 0 cc, .int .i64 0, .int .i64 0, .int .i64 mf, .int .i64 mc] 24)).alloc (.cells #[.slice none 0 0] 28)) := bal (bal0 w _) _
  have sz0 : w.heap.size + 2 ≤ ((w.alloc (.cells #[.int .i64 n, .int .i64 id, .int .i64 t, .bool false, .int .i64 sn, .slice H 0 hc, .slice C 0 cc, .int .i64 0, .int .i64 0, .int .i64 mf, .int .i64 mc] 24)).alloc (.cells #[.slice none 0 0] 28)).heap.size := by simp
  have i0 := X0.c 1 (.int .i64 id) rfl
  go_wp2_with fail
  go_ret
  exact ⟨_, _, rfl, own0.mono (by omega), bb0⟩

set_option maxRecDepth 100000 in
set_option maxHeartbeats 1000000 in
theorem ask_Nq01 (n id t sn bh mi mf mc : Int) (H C : Option Addr) (hc cc : Nat) (hu co : List Int) (w : World) (ht : t ≤ 9223372036854775807) (P : Int) (HP : Hid (peerI n id t = P)) (hP : 0 ≤ P) (hco : co ≠ []) (hrc : RdI w C co) (ht0 : 0 ≤ t) (hcol : co.length ≤ 100) : Calls Try.prog 12 #[.agg #[.int .i64 n, .int .i64 id, .int .i64 t, .bool false, .int .i64 sn, .slice H 0 hc, .slice C co.length cc, .int .i64 0, .int .i64 0, .int .i64 mf, .int .i64 mc]] w (RetM w [(14, id, P, co.getD (t % co.length).toNat 0, 0)]) := by
  have hP2 : decide (P < 0) = false := decide_eq_false (by omega)
  have hc0 : 0 < co.length := List.length_pos_iff.2 hco
  have hc0' : (0 : Int) < co.length := by omega
  obtain ⟨cb_, co_, rfl, hcl⟩ := hrc hco
  have hq0 := Int.emod_nonneg t (show (co.length : Int) ≠ 0 by omega)
  have hq1 := Int.emod_lt_of_pos t hc0'
  obtain ⟨q, hq⟩ : ∃ q : Nat, t % (co.length : Int) = (q : Int) := ⟨(t % (co.length : Int)).toNat, by omega⟩
  have hqn : (t % (co.length : Int)).toNat = q := by omega
  have hqlt : q < co.length := by omega
  have hqt : t.tmod (co.length : Int) = (q : Int) := by rw [Int.tmod_eq_emod_of_nonneg ht0]; exact hq
  have hcn1 : ((co.length : Int) == 0) = false := by rw [beq_eq_false_iff_ne]; omega
  have hcn2 : ¬ co.length = 0 := by omega
  have hcn3 : ¬ co = [] := hco
  have hqw : IntKind.i64.wrap (q : Int) = q := by rw [IntKind.wrap_i64]; omega
  rw [hqn]
  obtain ⟨yc, HYC⟩ : ∃ y, Hid (co.getD q 0 = y) := ⟨_, Lib.hid rfl⟩
  have hyc : w.cell? ⟨cb_, co_ + q, none⟩ = some (.int .i64 yc) := by
    rw [hcl q hqlt, ← HYC.out, List.getD_eq_getElem?_getD, List.getElem?_eq_getElem hqlt]
    rfl
  have hltc := World.block_lt_of_cell? w _ hyc
  have hqi : (q : Int) < co.length := by omega
  rw [HYC.out]
  clear hcl hco hrc hq0 hq1 hqn
  go_enter Try.func12, Try.ntmps12
  go_wp2_with fail
  with_reducible refine (peer_any n id t _ ht).mono ?_
  rw [HP.out]
  rintro e w1 ⟨rfl, rfl⟩
  have X0 := (Blk.new w 24 #[.int .i64 n, .int .i64 id, .int .i64 t, .bool false, .int .i64 sn, .slice H 0 hc, .slice (some ⟨cb_, co_, none⟩) co.length cc, .int .i64 0, .int .i64 0, .int .i64 mf, .int .i64 mc]).alloc (.cells #[.slice none 0 0] 28)
  have O0 : Blk ((w.alloc (.cells #[.int .i64 n, .int .i64 id, .int .i64 t, .bool false, .int .i64 sn, .slice H 0 hc, .slice (some ⟨cb_, co_, none⟩) co.length cc, .int .i64 0, .int .i64 0, .int .i64 mf, .int .i64 mc] 24)).alloc (.cells #[.slice none 0 0] 28)) (w.heap.size + 1) 28 #[.slice none 0 0] := Blk.new' _ _ (by simp)
  have own0 : OwnM ((w.alloc (.cells #[.int .i64 n, .int .i64 id, .int .i64 t, .bool false, .int .i64 sn, .slice H 0 hc, .slice (some ⟨cb_, co_, none⟩) co.length cc, .int .i64 0, .int .i64 0, .int .i64 mf, .int .i64 mc] 24)).alloc (.cells #[.slice none 0 0] 28)) (w.heap.size + 2) none 0 [] := OwnM.none_ _ _
  have bb0 : Below w.heap.size w ((w.alloc (.cells #[.int .i64 n, .int .i64 id, .int .i64 t, .bool false, .int .i64 sn, .slice H 0 hc, .slice (some ⟨cb_, co_, none⟩) co.length cc, .int .i64 0, .int .i64 0, .int .i64 mf, .int .i64 mc] 24)).alloc (.cells #[.slice none 0 0] 28)) := bal (bal0 w _) _
  have sz0 : w.heap.size + 2 ≤ ((w.alloc (.cells #[.int .i64 n, .int .i64 id, .int .i64 t, .bool false, .int .i64 sn, .slice H 0 hc, .slice (some ⟨cb_, co_, none⟩) co.length cc, .int .i64 0, .int .i64 0, .int .i64 mf, .int .i64 mc] 24)).alloc (.cells #[.slice none 0 0] 28)).heap.size := by simp
  have i0 := X0.c 1 (.int .i64 id) rfl
  go_wp2_with fail
  generalize ((w.alloc (.cells #[.int .i64 n, .int .i64 id, .int .i64 t, .bool false, .int .i64 sn, .slice H 0 hc, .slice (some ⟨cb_, co_, none⟩) co.length cc, .int .i64 0, .int .i64 0, .int .i64 mf, .int .i64 mc] 24)).alloc (.cells #[.slice none 0 0] 28)) = W0 at X0 O0 own0 bb0 sz0 i0 ⊢
  have x0 := X0.c 0 (.int .i64 n) rfl
  have x2 := X0.c 2 (.int .i64 t) rfl
  have x3 := X0.c 3 (.bool false) rfl
  have x4 := X0.c 4 (.int .i64 sn) rfl
  have x5 := X0.c 5 (.slice H 0 hc) rfl
  have x6 := X0.c 6 (.slice (some ⟨cb_, co_, none⟩) co.length cc) rfl
  have x7 := X0.c 7 (.int .i64 0) rfl
  have x8 := X0.c 8 (.int .i64 0) rfl
  have x9 := X0.c 9 (.int .i64 mf) rfl
  have x10 := X0.c 10 (.int .i64 mc) rfl
  have oc0 := O0.c 0 (.slice none 0 0) rfl
  have hyc_0 : W0.cell? ⟨cb_, co_ + q, none⟩ = some (.int .i64 yc) := (bb0.cell (p := ⟨cb_, co_ + q, none⟩) hltc).trans hyc
  go_still_tail 10, (by kernel_rfl)
  change wpList _ _ _ _ _ W0.drew
  go_wp2_with fail
  have i0d : W0.drew.cell? ⟨w.heap.size, 1, none⟩ = some (.int .i64 id) := i0
  have sz0d : w.heap.size + 2 ≤ W0.drew.heap.size := sz0
  have ln0 : Hid (0 = ([] : List Msg).length) := Lib.hid rfl
  have lm0 : Hid (([] : List Msg).length ≤ 50) := Lib.hid (by rw [← ln0.out]; decide)
  with_reducible refine (ask1_any 14 P yc 0 id (w.heap.size + 1) w.heap.size (w.heap.size + 2) none 0 0 [] _ O0.drew ln0.out own0.drew i0d lm0.out (by omega) sz0d).mono ?_
  rintro e w2 ⟨A1, c1, v1, rfl, hO1, hw1, hb1⟩
  have O1 : Blk w2 (w.heap.size + 1) 28 #[.slice A1 1 c1] := hO1
  have own1 : OwnM w2 (w.heap.size + 2) A1 c1 [(14, id, P, yc, 0)] := hw1
  have X1 := X0.drew.below hb1 (by omega)
  have bb1 : Below w.heap.size w w2 := bb0.drew.trans (hb1.mono (by omega))
  have sz1 : w.heap.size + 2 ≤ w2.heap.size := Nat.le_trans sz0 hb1.size
  have i1 := X1.c 1 (.int .i64 id) rfl
  have x0 := X1.c 0 (.int .i64 n) rfl
  have x2 := X1.c 2 (.int .i64 t) rfl
  have x3 := X1.c 3 (.bool false) rfl
  have x4 := X1.c 4 (.int .i64 sn) rfl
  have x5 := X1.c 5 (.slice H 0 hc) rfl
  have x6 := X1.c 6 (.slice (some ⟨cb_, co_, none⟩) co.length cc) rfl
  have x7 := X1.c 7 (.int .i64 0) rfl
  have x8 := X1.c 8 (.int .i64 0) rfl
  have x9 := X1.c 9 (.int .i64 mf) rfl
  have x10 := X1.c 10 (.int .i64 mc) rfl
  have oc1 := O1.c 0 (.slice A1 1 c1) rfl
  have hyc_1 : w2.cell? ⟨cb_, co_ + q, none⟩ = some (.int .i64 yc) := (bb1.cell (p := ⟨cb_, co_ + q, none⟩) hltc).trans hyc
  go_wp2_with fail
  go_ret
  exact ⟨_, _, rfl, own1.mono (by omega), bb1⟩

set_option maxRecDepth 100000 in
set_option maxHeartbeats 1000000 in
theorem ask_Nq10 (n id t sn bh mi mf mc : Int) (H C : Option Addr) (hc cc : Nat) (hu co : List Int) (w : World) (ht : t ≤ 9223372036854775807) (P : Int) (HP : Hid (peerI n id t = P)) (hP : 0 ≤ P) (hbh : bh ≠ 0) : Calls Try.prog 12 #[.agg #[.int .i64 n, .int .i64 id, .int .i64 t, .bool false, .int .i64 sn, .slice H 0 hc, .slice C 0 cc, .int .i64 bh, .int .i64 0, .int .i64 mf, .int .i64 mc]] w (RetM w [(10, id, P, bh, 0)]) := by
  have hP2 : decide (P < 0) = false := decide_eq_false (by omega)
  have gbh : (bh != 0) = true := by rw [bne_iff_ne]; exact hbh
  clear hbh
  go_enter Try.func12, Try.ntmps12
  go_wp2_with fail
  with_reducible refine (peer_any n id t _ ht).mono ?_
  rw [HP.out]
  rintro e w1 ⟨rfl, rfl⟩
  have X0 := (Blk.new w 24 #[.int .i64 n, .int .i64 id, .int .i64 t, .bool false, .int .i64 sn, .slice H 0 hc, .slice C 0 cc, .int .i64 bh, .int .i64 0, .int .i64 mf, .int .i64 mc]).alloc (.cells #[.slice none 0 0] 28)
  have O0 : Blk ((w.alloc (.cells #[.int .i64 n, .int .i64 id, .int .i64 t, .bool false, .int .i64 sn, .slice H 0 hc, .slice C 0 cc, .int .i64 bh, .int .i64 0, .int .i64 mf, .int .i64 mc] 24)).alloc (.cells #[.slice none 0 0] 28)) (w.heap.size + 1) 28 #[.slice none 0 0] := Blk.new' _ _ (by simp)
  have own0 : OwnM ((w.alloc (.cells #[.int .i64 n, .int .i64 id, .int .i64 t, .bool false, .int .i64 sn, .slice H 0 hc, .slice C 0 cc, .int .i64 bh, .int .i64 0, .int .i64 mf, .int .i64 mc] 24)).alloc (.cells #[.slice none 0 0] 28)) (w.heap.size + 2) none 0 [] := OwnM.none_ _ _
  have bb0 : Below w.heap.size w ((w.alloc (.cells #[.int .i64 n, .int .i64 id, .int .i64 t, .bool false, .int .i64 sn, .slice H 0 hc, .slice C 0 cc, .int .i64 bh, .int .i64 0, .int .i64 mf, .int .i64 mc] 24)).alloc (.cells #[.slice none 0 0] 28)) := bal (bal0 w _) _
  have sz0 : w.heap.size + 2 ≤ ((w.alloc (.cells #[.int .i64 n, .int .i64 id, .int .i64 t, .bool false, .int .i64 sn, .slice H 0 hc, .slice C 0 cc, .int .i64 bh, .int .i64 0, .int .i64 mf, .int .i64 mc] 24)).alloc (.cells #[.slice none 0 0] 28)).heap.size := by simp
  have i0 := X0.c 1 (.int .i64 id) rfl
  go_wp2_with fail
  have ln0 : Hid (0 = ([] : List Msg).length) := Lib.hid rfl
  have lm0 : Hid (([] : List Msg).length ≤ 50) := Lib.hid (by rw [← ln0.out]; decide)
  with_reducible refine (ask1_any 10 P bh 0 id (w.heap.size + 1) w.heap.size (w.heap.size + 2) none 0 0 [] _ O0 ln0.out own0 i0 lm0.out (by omega) sz0).mono ?_
  rintro e w2 ⟨A1, c1, v1, rfl, hO1, hw1, hb1⟩
  have O1 : Blk w2 (w.heap.size + 1) 28 #[.slice A1 1 c1] := hO1
  have own1 : OwnM w2 (w.heap.size + 2) A1 c1 [(10, id, P, bh, 0)] := hw1
  have X1 := X0.below hb1 (by omega)
  have bb1 : Below w.heap.size w w2 := bb0.trans (hb1.mono (by omega))
  have sz1 : w.heap.size + 2 ≤ w2.heap.size := Nat.le_trans sz0 hb1.size
  have i1 := X1.c 1 (.int .i64 id) rfl
  have x0 := X1.c 0 (.int .i64 n) rfl
  have x2 := X1.c 2 (.int .i64 t) rfl
  have x3 := X1.c 3 (.bool false) rfl
  have x4 := X1.c 4 (.int .i64 sn) rfl
  have x5 := X1.c 5 (.slice H 0 hc) rfl
  have x6 := X1.c 6 (.slice C 0 cc) rfl
  have x7 := X1.c 7 (.int .i64 bh) rfl
  have x8 := X1.c 8 (.int .i64 0) rfl
  have x9 := X1.c 9 (.int .i64 mf) rfl
  have x10 := X1.c 10 (.int .i64 mc) rfl
  have oc1 := O1.c 0 (.slice A1 1 c1) rfl
  go_wp2_with fail
  go_ret
  exact ⟨_, _, rfl, own1.mono (by omega), bb1⟩

set_option maxRecDepth 100000 in
set_option maxHeartbeats 1000000 in
theorem ask_Nq11 (n id t sn bh mi mf mc : Int) (H C : Option Addr) (hc cc : Nat) (hu co : List Int) (w : World) (ht : t ≤ 9223372036854775807) (P : Int) (HP : Hid (peerI n id t = P)) (hP : 0 ≤ P) (hbh : bh ≠ 0) (hco : co ≠ []) (hrc : RdI w C co) (ht0 : 0 ≤ t) (hcol : co.length ≤ 100) : Calls Try.prog 12 #[.agg #[.int .i64 n, .int .i64 id, .int .i64 t, .bool false, .int .i64 sn, .slice H 0 hc, .slice C co.length cc, .int .i64 bh, .int .i64 0, .int .i64 mf, .int .i64 mc]] w (RetM w [(10, id, P, bh, 0), (14, id, P, co.getD (t % co.length).toNat 0, 0)]) := by
  have hP2 : decide (P < 0) = false := decide_eq_false (by omega)
  have gbh : (bh != 0) = true := by rw [bne_iff_ne]; exact hbh
  clear hbh
  have hc0 : 0 < co.length := List.length_pos_iff.2 hco
  have hc0' : (0 : Int) < co.length := by omega
  obtain ⟨cb_, co_, rfl, hcl⟩ := hrc hco
  have hq0 := Int.emod_nonneg t (show (co.length : Int) ≠ 0 by omega)
  have hq1 := Int.emod_lt_of_pos t hc0'
  obtain ⟨q, hq⟩ : ∃ q : Nat, t % (co.length : Int) = (q : Int) := ⟨(t % (co.length : Int)).toNat, by omega⟩
  have hqn : (t % (co.length : Int)).toNat = q := by omega
  have hqlt : q < co.length := by omega
  have hqt : t.tmod (co.length : Int) = (q : Int) := by rw [Int.tmod_eq_emod_of_nonneg ht0]; exact hq
  have hcn1 : ((co.length : Int) == 0) = false := by rw [beq_eq_false_iff_ne]; omega
  have hcn2 : ¬ co.length = 0 := by omega
  have hcn3 : ¬ co = [] := hco
  have hqw : IntKind.i64.wrap (q : Int) = q := by rw [IntKind.wrap_i64]; omega
  rw [hqn]
  obtain ⟨yc, HYC⟩ : ∃ y, Hid (co.getD q 0 = y) := ⟨_, Lib.hid rfl⟩
  have hyc : w.cell? ⟨cb_, co_ + q, none⟩ = some (.int .i64 yc) := by
    rw [hcl q hqlt, ← HYC.out, List.getD_eq_getElem?_getD, List.getElem?_eq_getElem hqlt]
    rfl
  have hltc := World.block_lt_of_cell? w _ hyc
  have hqi : (q : Int) < co.length := by omega
  rw [HYC.out]
  clear hcl hco hrc hq0 hq1 hqn
  go_enter Try.func12, Try.ntmps12
  go_wp2_with fail
  with_reducible refine (peer_any n id t _ ht).mono ?_
  rw [HP.out]
  rintro e w1 ⟨rfl, rfl⟩
  have X0 := (Blk.new w 24 #[.int .i64 n, .int .i64 id, .int .i64 t, .bool false, .int .i64 sn, .slice H 0 hc, .slice (some ⟨cb_, co_, none⟩) co.length cc, .int .i64 bh, .int .i64 0, .int .i64 mf, .int .i64 mc]).alloc (.cells #[.slice none 0 0] 28)
  have O0 : Blk ((w.alloc (.cells #[.int .i64 n, .int .i64 id, .int .i64 t, .bool false, .int .i64 sn, .slice H 0 hc, .slice (some ⟨cb_, co_, none⟩) co.length cc, .int .i64 bh, .int .i64 0, .int .i64 mf, .int .i64 mc] 24)).alloc (.cells #[.slice none 0 0] 28)) (w.heap.size + 1) 28 #[.slice none 0 0] := Blk.new' _ _ (by simp)
  have own0 : OwnM ((w.alloc (.cells #[.int .i64 n, .int .i64 id, .int .i64 t, .bool false, .int .i64 sn, .slice H 0 hc, .slice (some ⟨cb_, co_, none⟩) co.length cc, .int .i64 bh, .int .i64 0, .int .i64 mf, .int .i64 mc] 24)).alloc (.cells #[.slice none 0 0] 28)) (w.heap.size + 2) none 0 [] := OwnM.none_ _ _
  have bb0 : Below w.heap.size w ((w.alloc (.cells #[.int .i64 n, .int .i64 id, .int .i64 t, .bool false, .int .i64 sn, .slice H 0 hc, .slice (some ⟨cb_, co_, none⟩) co.length cc, .int .i64 bh, .int .i64 0, .int .i64 mf, .int .i64 mc] 24)).alloc (.cells #[.slice none 0 0] 28)) := bal (bal0 w _) _
  have sz0 : w.heap.size + 2 ≤ ((w.alloc (.cells #[.int .i64 n, .int .i64 id, .int .i64 t, .bool false, .int .i64 sn, .slice H 0 hc, .slice (some ⟨cb_, co_, none⟩) co.length cc, .int .i64 bh, .int .i64 0, .int .i64 mf, .int .i64 mc] 24)).alloc (.cells #[.slice none 0 0] 28)).heap.size := by simp
  have i0 := X0.c 1 (.int .i64 id) rfl
  go_wp2_with fail
  have ln0 : Hid (0 = ([] : List Msg).length) := Lib.hid rfl
  have lm0 : Hid (([] : List Msg).length ≤ 50) := Lib.hid (by rw [← ln0.out]; decide)
  with_reducible refine (ask1_any 10 P bh 0 id (w.heap.size + 1) w.heap.size (w.heap.size + 2) none 0 0 [] _ O0 ln0.out own0 i0 lm0.out (by omega) sz0).mono ?_
  rintro e w2 ⟨A1, c1, v1, rfl, hO1, hw1, hb1⟩
  have O1 : Blk w2 (w.heap.size + 1) 28 #[.slice A1 1 c1] := hO1
  have own1 : OwnM w2 (w.heap.size + 2) A1 c1 [(10, id, P, bh, 0)] := hw1
  have X1 := X0.below hb1 (by omega)
  have bb1 : Below w.heap.size w w2 := bb0.trans (hb1.mono (by omega))
  have sz1 : w.heap.size + 2 ≤ w2.heap.size := Nat.le_trans sz0 hb1.size
  have i1 := X1.c 1 (.int .i64 id) rfl
  have x0 := X1.c 0 (.int .i64 n) rfl
  have x2 := X1.c 2 (.int .i64 t) rfl
  have x3 := X1.c 3 (.bool false) rfl
  have x4 := X1.c 4 (.int .i64 sn) rfl
  have x5 := X1.c 5 (.slice H 0 hc) rfl
  have x6 := X1.c 6 (.slice (some ⟨cb_, co_, none⟩) co.length cc) rfl
  have x7 := X1.c 7 (.int .i64 bh) rfl
  have x8 := X1.c 8 (.int .i64 0) rfl
  have x9 := X1.c 9 (.int .i64 mf) rfl
  have x10 := X1.c 10 (.int .i64 mc) rfl
  have oc1 := O1.c 0 (.slice A1 1 c1) rfl
  have hyc_1 : w2.cell? ⟨cb_, co_ + q, none⟩ = some (.int .i64 yc) := (bb1.cell (p := ⟨cb_, co_ + q, none⟩) hltc).trans hyc
  go_wp2_with fail
  go_still_tail 10, (by kernel_rfl)
  change wpList _ _ _ _ _ w2.drew
  go_wp2_with fail
  clear x0 x2 x3 x4 x5 x6 x7 x8 x9 x10
  have i1d : w2.drew.cell? ⟨w.heap.size, 1, none⟩ = some (.int .i64 id) := i1
  have sz1d : w.heap.size + 2 ≤ w2.drew.heap.size := sz1
  have ln1 : Hid (1 = ([(10, id, P, bh, 0)] : List Msg).length) := Lib.hid rfl
  have lm1 : Hid (([(10, id, P, bh, 0)] : List Msg).length ≤ 50) := Lib.hid (by rw [← ln1.out]; decide)
  with_reducible refine (ask1_any 14 P yc 0 id (w.heap.size + 1) w.heap.size (w.heap.size + 2) A1 1 c1 [(10, id, P, bh, 0)] _ O1.drew ln1.out own1.drew i1d lm1.out (by omega) sz1d).mono ?_
  rintro e w3 ⟨A2, c2, v2, rfl, hO2, hw2, hb2⟩
  have O2 : Blk w3 (w.heap.size + 1) 28 #[.slice A2 2 c2] := hO2
  have own2 : OwnM w3 (w.heap.size + 2) A2 c2 [(10, id, P, bh, 0), (14, id, P, yc, 0)] := hw2
  have X2 := X1.drew.below hb2 (by omega)
  have bb2 : Below w.heap.size w w3 := bb1.drew.trans (hb2.mono (by omega))
  have sz2 : w.heap.size + 2 ≤ w3.heap.size := Nat.le_trans sz1 hb2.size
  have i2 := X2.c 1 (.int .i64 id) rfl
  have x0 := X2.c 0 (.int .i64 n) rfl
  have x2 := X2.c 2 (.int .i64 t) rfl
  have x3 := X2.c 3 (.bool false) rfl
  have x4 := X2.c 4 (.int .i64 sn) rfl
  have x5 := X2.c 5 (.slice H 0 hc) rfl
  have x6 := X2.c 6 (.slice (some ⟨cb_, co_, none⟩) co.length cc) rfl
  have x7 := X2.c 7 (.int .i64 bh) rfl
  have x8 := X2.c 8 (.int .i64 0) rfl
  have x9 := X2.c 9 (.int .i64 mf) rfl
  have x10 := X2.c 10 (.int .i64 mc) rfl
  have oc2 := O2.c 0 (.slice A2 2 c2) rfl
  have hyc_2 : w3.cell? ⟨cb_, co_ + q, none⟩ = some (.int .i64 yc) := (bb2.cell (p := ⟨cb_, co_ + q, none⟩) hltc).trans hyc
  go_wp2_with fail
  go_ret
  exact ⟨_, _, rfl, own2.mono (by omega), bb2⟩

set_option maxRecDepth 100000 in
theorem ask_no (n id t sn bh mi mf mc : Int) (pl : Bool) (H C : Option Addr) (nh nc hc cc : Nat) (w : World) (ht : t ≤ 9223372036854775807) (P : Int) (HP : Hid (peerI n id t = P)) (hP : P < 0) : Calls Try.prog 12 #[.agg #[.int .i64 n, .int .i64 id, .int .i64 t, .bool pl, .int .i64 sn, .slice H nh hc, .slice C nc cc, .int .i64 bh, .int .i64 mi, .int .i64 mf, .int .i64 mc]] w (RetM w []) := by
  go_enter Try.func12, Try.ntmps12
  go_wp2_with fail
  with_reducible refine (peer_any n id t _ ht).mono ?_
  rw [HP.out]
  rintro e w1 ⟨rfl, rfl⟩
  go_wp2_with fail
  go_ret
  exact ⟨_, _, rfl, OwnM.none_ _ _, bal0 _ _⟩
theorem ask_any (n id t sn bh mi mf mc : Int) (pl : Bool) (H C : Option Addr) (hc cc : Nat) (hu co : List Int) (w : World) (ht : t ≤ 9223372036854775807) (hrH : RdI w H hu) (hrC : RdI w C co) (hcol : co.length ≤ 100) : Calls Try.prog 12 #[.agg #[.int .i64 n, .int .i64 id, .int .i64 t, .bool pl, .int .i64 sn, .slice H hu.length hc, .slice C co.length cc, .int .i64 bh, .int .i64 mi, .int .i64 mf, .int .i64 mc]] w (RetM w (askL n id t pl sn hu co bh mi mf mc)) := by
  cases hp : peerB n id t
  case false =>
    have e : askL n id t pl sn hu co bh mi mf mc = [] := by simp [askL, hp]
    rw [e]
    exact ask_no n id t sn bh mi mf mc pl H C _ _ hc cc w ht _ (Lib.hid rfl) (peerI_neg.2 hp)
  obtain ⟨hp0, _⟩ := peerI_bd hp
  have ht0 := (peerB_true hp).2.2.2.2
  cases pl
  case true =>
    by_cases hmi : mi = 0
    · subst hmi
      by_cases hbh : bh = 0
      · subst hbh
        have e : askL n id t true sn hu co 0 0 mf mc = [] := by simp [askL, hp, askF, askS, askT]
        rw [e]
        exact ask_Np00 n id t sn 0 0 mf mc H C hc cc hu co w ht _ (Lib.hid rfl) hp0 
      · have e : askL n id t true sn hu co bh 0 mf mc = [(10, id, peerI n id t, bh, 0)] := by simp [askL, hp, askF, askS, askT, hbh]
        rw [e]
        exact ask_Np10 n id t sn bh 0 mf mc H C hc cc hu co w ht _ (Lib.hid rfl) hp0 hbh
    · skip
      by_cases hbh : bh = 0
      · subst hbh
        have e : askL n id t true sn hu co 0 mi mf mc = [(12, id, mf, mi, mc)] := by simp [askL, hp, askF, askS, askT, hmi]
        rw [e]
        exact ask_Mp00 n id t sn 0 mi mf mc H C hc cc hu co w ht _ (Lib.hid rfl) hp0 hmi
      · have e : askL n id t true sn hu co bh mi mf mc = [(12, id, mf, mi, mc), (10, id, peerI n id t, bh, 0)] := by simp [askL, hp, askF, askS, askT, hmi, hbh]
        rw [e]
        exact ask_Mp10 n id t sn bh mi mf mc H C hc cc hu co w ht _ (Lib.hid rfl) hp0 hmi hbh
  case false =>
    by_cases hmi : mi = 0
    · subst hmi
      by_cases hhu : hu = []
      · subst hhu
        by_cases hbh : bh = 0
        · subst hbh
          by_cases hco : co = []
          · subst hco
            have e : askL n id t false sn [] [] 0 0 mf mc = [] := by simp [askL, hp, askF, askS, askT]
            rw [e]
            exact ask_Nq00 n id t sn 0 0 mf mc H C hc cc [] [] w ht _ (Lib.hid rfl) hp0 
          ·
            have e : askL n id t false sn [] co 0 0 mf mc = [(14, id, peerI n id t, co.getD (t % co.length).toNat 0, 0)] := by simp [askL, hp, askF, askS, askT, hco]
            rw [e]
            exact ask_Nq01 n id t sn 0 0 mf mc H C hc cc [] co w ht _ (Lib.hid rfl) hp0 hco hrC ht0 hcol
        · by_cases hco : co = []
          · subst hco
            have e : askL n id t false sn [] [] bh 0 mf mc = [(10, id, peerI n id t, bh, 0)] := by simp [askL, hp, askF, askS, askT, hbh]
            rw [e]
            exact ask_Nq10 n id t sn bh 0 mf mc H C hc cc [] [] w ht _ (Lib.hid rfl) hp0 hbh
          ·
            have e : askL n id t false sn [] co bh 0 mf mc = [(10, id, peerI n id t, bh, 0), (14, id, peerI n id t, co.getD (t % co.length).toNat 0, 0)] := by simp [askL, hp, askF, askS, askT, hbh, hco]
            rw [e]
            exact ask_Nq11 n id t sn bh 0 mf mc H C hc cc [] co w ht _ (Lib.hid rfl) hp0 hbh hco hrC ht0 hcol
      · skip
        by_cases hbh : bh = 0
        · subst hbh
          by_cases hco : co = []
          · subst hco
            have e : askL n id t false sn hu [] 0 0 mf mc = [(15, id, peerI n id t, sn, hu.getD 0 0)] := by simp [askL, hp, askF, askS, askT, hhu]
            rw [e]
            exact ask_Hq00 n id t sn 0 0 mf mc H C hc cc hu [] w ht _ (Lib.hid rfl) hp0 hhu hrH
          ·
            have e : askL n id t false sn hu co 0 0 mf mc = [(15, id, peerI n id t, sn, hu.getD 0 0), (14, id, peerI n id t, co.getD (t % co.length).toNat 0, 0)] := by simp [askL, hp, askF, askS, askT, hhu, hco]
            rw [e]
            exact ask_Hq01 n id t sn 0 0 mf mc H C hc cc hu co w ht _ (Lib.hid rfl) hp0 hhu hrH hco hrC ht0 hcol
        · by_cases hco : co = []
          · subst hco
            have e : askL n id t false sn hu [] bh 0 mf mc = [(15, id, peerI n id t, sn, hu.getD 0 0), (10, id, peerI n id t, bh, 0)] := by simp [askL, hp, askF, askS, askT, hhu, hbh]
            rw [e]
            exact ask_Hq10 n id t sn bh 0 mf mc H C hc cc hu [] w ht _ (Lib.hid rfl) hp0 hhu hrH hbh
          ·
            have e : askL n id t false sn hu co bh 0 mf mc = [(15, id, peerI n id t, sn, hu.getD 0 0), (10, id, peerI n id t, bh, 0), (14, id, peerI n id t, co.getD (t % co.length).toNat 0, 0)] := by simp [askL, hp, askF, askS, askT, hhu, hbh, hco]
            rw [e]
            exact ask_Hq11 n id t sn bh 0 mf mc H C hc cc hu co w ht _ (Lib.hid rfl) hp0 hhu hrH hbh hco hrC ht0 hcol
    · skip
      by_cases hbh : bh = 0
      · subst hbh
        by_cases hco : co = []
        · subst hco
          have e : askL n id t false sn hu [] 0 mi mf mc = [(12, id, mf, mi, mc)] := by simp [askL, hp, askF, askS, askT, hmi]
          rw [e]
          exact ask_Mq00 n id t sn 0 mi mf mc H C hc cc hu [] w ht _ (Lib.hid rfl) hp0 hmi
        ·
          have e : askL n id t false sn hu co 0 mi mf mc = [(12, id, mf, mi, mc), (14, id, peerI n id t, co.getD (t % co.length).toNat 0, 0)] := by simp [askL, hp, askF, askS, askT, hmi, hco]
          rw [e]
          exact ask_Mq01 n id t sn 0 mi mf mc H C hc cc hu co w ht _ (Lib.hid rfl) hp0 hmi hco hrC ht0 hcol
      · by_cases hco : co = []
        · subst hco
          have e : askL n id t false sn hu [] bh mi mf mc = [(12, id, mf, mi, mc), (10, id, peerI n id t, bh, 0)] := by simp [askL, hp, askF, askS, askT, hmi, hbh]
          rw [e]
          exact ask_Mq10 n id t sn bh mi mf mc H C hc cc hu [] w ht _ (Lib.hid rfl) hp0 hmi hbh
        ·
          have e : askL n id t false sn hu co bh mi mf mc = [(12, id, mf, mi, mc), (10, id, peerI n id t, bh, 0), (14, id, peerI n id t, co.getD (t % co.length).toNat 0, 0)] := by simp [askL, hp, askF, askS, askT, hmi, hbh, hco]
          rw [e]
          exact ask_Mq11 n id t sn bh mi mf mc H C hc cc hu co w ht _ (Lib.hid rfl) hp0 hmi hbh hco hrC ht0 hcol
end Go.Proofs.Ytfkcbnndmheijaa
