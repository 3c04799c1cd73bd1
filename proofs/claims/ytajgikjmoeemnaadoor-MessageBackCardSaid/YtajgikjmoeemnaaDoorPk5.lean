import Derived.Test.YtajgikjmoeemnaaDoorPk3
import Derived.Test.YtajgikjmoeemnaaDoorPk4
import Derived.Test.YtajgikjmoeemnaaDoorPk2
/-
  PLAIN: bodies: what is printed is parsed as it was, and the other way; cut, and with more behind. No program in sight.
-/
namespace Go.Proofs.YtajgikjmoeemnaaDoor
set_option maxRecDepth 100000
set_option linter.unusedVariables false

theorem bal_bd {r p : Int} (h : balB r p = true) : 1 ≤ r ∧ r ≤ 1099511627776 ∧ 0 ≤ p ∧ p < 7 := by
  simp only [balB, Bool.and_eq_true, decide_eq_true_eq] at h
  exact h
theorem bodyL_ok {r p : Int} {e : En} (hb : balB r p = true) (hm : mayB e = true) : bodyL r p e = putL 6 r ++ (putL 1 p ++ entL e) := by unfold bodyL; rw [hb, hm]; rfl
theorem bodyE_ok {r p : Int} {e : En} (hb : balB r p = true) (hm : mayB e = true) : bodyE r p e = 0 := by unfold bodyE; rw [hb, hm]; rfl
theorem bodyL_no {r p : Int} {e : En} (h : (balB r p && mayB e) = false) : bodyL r p e = [] := by unfold bodyL; rw [h]; rfl
theorem bodyE_no {r p : Int} {e : En} (h : (balB r p && mayB e) = false) : bodyE r p e = 2 := by unfold bodyE; rw [h]; rfl
theorem paE_cases (l : List UInt8) : paE l = 0 ∨ paE l = 90 := by unfold paE; split <;> simp
theorem entL_len {e : En} (hm : mayB e = true) : 1 ≤ (entL e).length ∧ (entL e).length ≤ 52 := by
  rcases may_bd hm with rfl | ⟨hk, h1, h2, h3, h4, h5, h6, h7, h8, h9, h10⟩
  · have : (entL noop).length = 1 := by decide
    omega
  · unfold entL
    rw [if_pos hk, hk, textL_ok (by rw [size_len]; omega), textL_ok (by rw [size_len]; omega), textL_ok (by rw [size_len]; omega)]
    simp only [List.length_append, List.length_cons, size_len, putL_len (fits1 (n := 2) (by omega) (by omega)), putL_len (fits1 h1 (by omega)), putL_len (fits6 (n := e.s) (by omega) (by omega)), putL_len (fits1 (n := e.ok) (by omega) (by omega))]
    omega
theorem bodyL_len {r p : Int} {e : En} (hb : balB r p = true) (hm : mayB e = true) : 8 ≤ (bodyL r p e).length ∧ (bodyL r p e).length ≤ 59 := by
  have h := entL_len hm
  obtain ⟨b1, b2, b3, b4⟩ := bal_bd hb
  rw [bodyL_ok hb hm]
  simp only [List.length_append, putL_len (fits6 (n := r) (by omega) (by omega)), putL_len (fits1 (n := p) b3 (by omega))]
  omega
theorem pa_state {r p : Int} {e : En} (hb : balB r p = true) (hm : mayB e = true) (c : List UInt8) :
    paR (bodyL r p e ++ c) = r ∧ paP (bodyL r p e ++ c) = p ∧ (q2 (bodyL r p e ++ c)).bad = false ∧ erE (bodyL r p e ++ c) (q2 (bodyL r p e ++ c)).at_ = 0 ∧ erV (bodyL r p e ++ c) (q2 (bodyL r p e ++ c)).at_ = e ∧ erN (bodyL r p e ++ c) (q2 (bodyL r p e ++ c)).at_ = (bodyL r p e).length := by
  obtain ⟨b1, b2, b3, b4⟩ := bal_bd hb
  have f6 : fitsB 6 r = true := fits6 (by omega) (by omega)
  have f1 : fitsB 1 p = true := fits1 b3 (by omega)
  generalize hl : bodyL r p e ++ c = l
  have h0 : l = [] ++ (putL 6 r ++ (putL 1 p ++ (entL e ++ c))) := by rw [← hl, bodyL_ok hb hm]; simp
  have h1 : l = putL 6 r ++ (putL 1 p ++ (entL e ++ c)) := h0
  have h2 : l = (putL 6 r ++ putL 1 p) ++ (entL e ++ c) := by rw [h1, List.append_assoc]
  obtain ⟨g1, g2⟩ := gN_put [] (putL 1 p ++ (entL e ++ c)) 6 r f6
  rw [← h0] at g1 g2
  have k1 : paR l = r := g1
  have k2 : q1 l = ⟨(putL 6 r).length, false⟩ := g2
  obtain ⟨g3, g4⟩ := gN_put (putL 6 r) (entL e ++ c) 1 p f1
  rw [← h1] at g3 g4
  have k3 : paP l = p := by unfold paP; rw [k2]; exact g3
  have k4 : q2 l = ⟨(putL 6 r ++ putL 1 p).length, false⟩ := by unfold q2; rw [k2]; exact g4
  obtain ⟨e1, e2, e3⟩ := er_put hm (putL 6 r ++ putL 1 p) c
  rw [← h2] at e1 e2 e3
  rw [k4]
  refine ⟨k1, k3, rfl, e1, e2, ?_⟩
  show erN l ((putL 6 r ++ putL 1 p).length : Nat) = _
  rw [e3, bodyL_ok hb hm]
  simp
theorem pa_more {r p : Int} {e : En} (hb : balB r p = true) (hm : mayB e = true) (c : List UInt8) : paE (bodyL r p e ++ c) = if c = [] then 0 else 90 := by
  obtain ⟨h1, h2, h3, h4, h5, h6⟩ := pa_state hb hm c
  unfold paE
  rw [h1, h2, h3, h4, h6, hb]
  cases c with
  | nil => simp
  | cons x c =>
    rw [if_pos (by simp; omega), if_neg (by simp)]
theorem pa_print {r p : Int} {e : En} (hb : balB r p = true) (hm : mayB e = true) : paE (bodyL r p e) = 0 ∧ paBR (bodyL r p e) = r ∧ paBP (bodyL r p e) = p ∧ paV (bodyL r p e) = e := by
  obtain ⟨h1, h2, h3, h4, h5, h6⟩ := pa_state hb hm []
  have h0 := pa_more hb hm []
  rw [List.append_nil] at h0 h1 h2 h3 h4 h5 h6
  rw [if_pos rfl] at h0
  refine ⟨h0, ?_, ?_, ?_⟩
  · unfold paBR; rw [h0, if_pos rfl, h1]
  · unfold paBP; rw [h0, if_pos rfl, h2]
  · unfold paV; rw [h0, if_pos rfl, h5]
theorem pa_get {l : List UInt8} (h : paE l = 0) : balB (paBR l) (paBP l) = true ∧ mayB (paV l) = true ∧ bodyL (paBR l) (paBP l) (paV l) = l := by
  have h' := h
  unfold paE at h'
  split at h'
  · omega
  rename_i hn
  simp only [Bool.or_eq_true, not_or, Bool.not_eq_true, bne_eq_false_iff_eq, decide_eq_false_iff_not, Bool.not_eq_false'] at hn
  obtain ⟨hq, he, hlt, hb⟩ := hn
  have hbr : paBR l = paR l := by unfold paBR; rw [h, if_pos rfl]
  have hbp : paBP l = paP l := by unfold paBP; rw [h, if_pos rfl]
  have hv : paV l = erV l (q2 l).at_ := by unfold paV; rw [h, if_pos rfl]
  rw [hbr, hbp, hv]
  obtain ⟨b1, t1, u1, v1⟩ := gR_ok (show (gR l (q1 l) 1).bad = false from hq)
  obtain ⟨_, t0, u0, v0⟩ := gR_ok (show (gR l ⟨0, false⟩ 6).bad = false from b1)
  have v0 : q1 l = ⟨((6 : Nat) : Int), false⟩ := v0
  rw [v0] at t1 u1 v1
  have v1 : q2 l = ⟨((7 : Nat) : Int), false⟩ := by unfold q2; rw [v0]; exact v1
  rw [v1] at he hlt ⊢
  obtain ⟨hm, A, N, hA, hN, hlt2, hle, hL⟩ := er_get he
  obtain rfl : A = 7 := by simp only at hA; omega
  have hNl : N = l.length := by
    rw [show erN l (⟨((7 : Nat) : Int), false⟩ : Rs).at_ = N from hN] at hlt
    omega
  refine ⟨hb, hm, ?_⟩
  rw [bodyL_ok hb hm, hL]
  obtain ⟨p0, _⟩ := put_get (l := l) (a := 0) (w := 6) (by simpa using t0)
  obtain ⟨p1, _⟩ := put_get (l := l) (a := 6) (w := 1) (by simpa using t1)
  have e0 : paR l = getN l ((0 : Nat) : Int) ((6 : Nat) : Int) := u0
  have e1 : paP l = getN l ((6 : Nat) : Int) ((1 : Nat) : Int) := by unfold paP; rw [v0]; exact u1
  rw [e0, e1]
  have p0 : putL 6 (getN l ((0 : Nat) : Int) ((6 : Nat) : Int)) = seg l 0 (0 + 6) := p0
  have p1 : putL 1 (getN l ((6 : Nat) : Int) ((1 : Nat) : Int)) = seg l 6 (6 + 1) := p1
  rw [p0, p1, seg_append l (by omega) (by omega), seg_append l (by omega) (by omega), hNl]
  unfold seg
  simp
theorem pa_cut {r p : Int} {e : En} (hb : balB r p = true) (hm : mayB e = true) {k : Nat} (hk : k < (bodyL r p e).length) : paE ((bodyL r p e).take k) = 90 := by
  rcases paE_cases ((bodyL r p e).take k) with h | h
  · exfalso
    obtain ⟨h1, h2, h3⟩ := pa_get h
    have h4 := pa_more h1 h2 ((bodyL r p e).drop k)
    rw [h3, List.take_append_drop, if_neg (by intro e0; have := congrArg List.length e0; simp at this; omega), (pa_print hb hm).1] at h4
    omega
  · exact h
theorem pa_no {l : List UInt8} (h : paE l = 90) : paBR l = 0 ∧ paBP l = 0 ∧ paV l = en0 := by
  unfold paBR paBP paV
  rw [h]
  exact ⟨rfl, rfl, rfl⟩
theorem may_sm {e : En} (h : mayB e = true) : Sm e ∧ U8 e := by
  rcases may_bd h with rfl | ⟨hk, h1, h2, h3, h4, h5, h6, h7, h8, h9, h10⟩
  · exact ⟨⟨Nat.zero_le _, Nat.zero_le _, Nat.zero_le _⟩, ⟨by decide, by decide, by decide, by decide⟩⟩
  · exact ⟨⟨by unfold maxLen; omega, by unfold maxLen; omega, by unfold maxLen; omega⟩, ⟨by omega, by omega, by omega, by omega⟩⟩
end Go.Proofs.YtajgikjmoeemnaaDoor

/-
  THE WALKS OF message's writer: number, text, ballot, entry, who.
-/
namespace Go.Proofs.YtajgikjmoeemnaaDoor
set_option maxRecDepth 100000
open Go.RowKit
set_option linter.unusedVariables false
set_option linter.unusedSimpArgs false
theorem wri_u : Tryd.prog.underlying 66 = some (.slice 5) := Tryd.underlying66
theorem append_as (w : World) (ty : TypeId) (u v : Value) : (Builtin.append_ #[66, 32] ty #[u, v]).run Tryd.prog w = (Builtin.append_ #[32, 32] ty #[u, v]).run Tryd.prog w := by
  unfold Builtin.append_
  simp [run_underlying wri_u, run_underlying u8_slice]
theorem int_i : (Tryd.prog.info? 3).map (fun i => (i.zero, i.size)) = some (some (.int .i64 0), 1) := by kernel_rfl
section
variable {a : Act} {w0 w : World} {Q : Exit → Act → World → Prop} {L : List Item} {ops : Array Oper} {rest : List Oper} {d : Option Tmp} {tt : TypeId} {ps : String} {af : Array Edge} {gd : Option (Nat × Bool)} {x s : Operand}
theorem Hp.wlAppW (H : Hp w0 w L) (h : ∃ (i : Nat) (A : Option Addr) (c : Nat) (l : List UInt8), a.eval s = .slice A l.length c ∧ L[i]? = some (.bytes A c l) ∧ ∃ (A2 : Option Addr) (c2 : Nat) (news : List UInt8), a.eval x = .slice A2 news.length c2 ∧ Rd w A2 news ∧ l.length + news.length ≤ 140737488355328 ∧
      ∀ A' c' w', Hp w0 w' (L.set i (.bytes A' c' (l ++ news))) → wpList Tryd.prog ops Q rest (a.put d (.slice A' (l ++ news).length c')) w') :
    wpList Tryd.prog ops Q ({ dst := d, op := .call { callee := .builtin .append, args := #[s, x], argTypes := #[66, 32] }, type := tt, pos := ps, after := af, guard := none } :: rest) a w := by
  obtain ⟨i, A, c, l, hs, hL, A2, c2, news, hx, hr, hlen, hk⟩ := h
  obtain ⟨A', c', w', hrun, hH⟩ := H.appBytes tt i A c l hL A2 c2 news hr hlen
  rw [← append_as] at hrun
  refine wpList_plain rfl fun K hK => ?_
  have := ex_app (a := a) (oi := { dst := d, op := .call { callee := .builtin .append, args := #[s, x], argTypes := #[66, 32] }, type := tt, pos := ps, after := af, guard := none }) rfl hs hx hrun
  unfold Oper.wp
  rw [this]
  exact hK _ _ (hk A' c' w' hH)
/-- a slice of numbers that is built -/
theorem Hp.bslI (H : Hp w0 w L) {n : Nat} {parts : List (Nat × Operand)} (h : Region.wanted { dst := d, op := .buildSlice 96 n parts.toArray, type := tt, pos := ps, after := af, guard := gd } (yielded ops a.tmps) = true ∧ Nat.ble n 1000 = true ∧ Nat.ble 1 n = true ∧
    ∃ vs : List Value, (parts.map fun x => (x.1, a.eval x.2)) = nums 0 vs ∧ vs.length = n ∧ vs.all (·.oneCell') = true ∧
    ∀ g w', Hp w0 w' (.blk g 3 vs :: L) → wpList Tryd.prog ops Q rest (a.put d (.slice (some ⟨g, 0, none⟩) n n)) w') :
    wpList Tryd.prog ops Q ({ dst := d, op := .buildSlice 96 n parts.toArray, type := tt, pos := ps, after := af, guard := gd } :: rest) a w := by
  obtain ⟨h1, h2, h2', vs, h3, h5, h6, h7⟩ := h
  have hn := Nat.le_of_ble_eq_true h2
  have hn1 := Nat.le_of_ble_eq_true h2'
  cases hi : Tryd.prog.info? 3 with
  | none => have := int_i; rw [hi] at this; cases this
  | some i =>
    have hu := int_i
    rw [hi] at hu
    simp only [Option.map_some, Option.some.injEq, Prod.mk.injEq] at hu
    have hr := run_bsl (P := Tryd.prog) w Tryd.underlying96 hi hu.1 hu.2 n (by omega) (by omega) (parts.map fun x => (x.1, a.eval x.2)).toArray vs (by
      have hf := fill_nums vs 0 ((Array.range (n * 1)).map (fun k => (Value.int .i64 0).cells[k % (Value.int .i64 0).cells.size]!)).toList h6 (by simp [h5])
      rw [List.take_zero, List.nil_append] at hf
      rw [show (parts.map fun x => (x.1, a.eval x.2)).toArray.toList = nums 0 vs from h3, ← hf])
    have he : (execOp a.eval { dst := d, op := .buildSlice 96 n parts.toArray, type := tt, pos := ps, after := af, guard := gd }).run Tryd.prog w = .ok (.value (.slice (some ⟨w.heap.size, 0, none⟩) n n)) (w.alloc (.cells vs.toArray 3)) := by
      have e : (parts.toArray.map fun x => (x.1, a.eval x.2)) = (parts.map fun x => (x.1, a.eval x.2)).toArray := by simp
      simp only [execOp, e]
      simp [hr]
    refine BigFrame.wpList_want h1 fun K hK => ?_
    unfold Oper.wp
    rw [he]
    exact hK _ _ (h7 _ _ (H.alloc _ _))
end
/-- the writer's cell -/
abbrev wrI (g : Nat) (A : Option Addr) (c : Nat) (l : List UInt8) : Item := .blk g 66 [.slice A l.length c]
/-- behind a call the writer holds these bytes -/
def RetWr (w0 : World) (g : Nat) (l : List UInt8) (L : List Item) (e : Ending) (w' : World) : Prop := ∃ A c, e = .returned (.tuple #[]) ∧ Hp w0 w' (wrI g A c l :: .bytes A c l :: L)
theorem Hp.del3 {w0 w : World} {a b c : Item} {L : List Item} (H : Hp w0 w (a :: b :: c :: L)) : Hp w0 w (a :: b :: L) := H.del2
set_option maxHeartbeats 2000000 in
theorem wnum_any (width n : Int) (g g2 : Nat) (A : Option Addr) (c : Nat) (l : List UInt8) (w0 w : World) (L : List Item) (hl : l.length ≤ 1000000) (H : Hp w0 w (.blk g2 3 [.int .i64 n] :: wrI g A c l :: .bytes A c l :: L)) :
    Calls Tryd.prog 29 #[.pointer (some ⟨g, 0, none⟩), .int .i64 width, .slice (some ⟨g2, 0, none⟩) 1 1] w (RetWr w0 g (l ++ putL width n) L) := by
  have HLN : Hid (l.length + (putL width n).length ≤ 140737488355328) := Lib.hid (by have := putL_length6 width n; omega)
  go_enter Tryd.func29, Tryd.ntmps29
  go_wp2_with (first | ((with_reducible refine Hp.ld H ?_); refine ⟨rfl, ?_⟩; refine ⟨c_look rfl, ?_⟩; refine ⟨_, _, rfl, ?_⟩; (first | refine ⟨_, _, _, .z, ?_⟩ | refine ⟨_, _, _, .s .z, ?_⟩ | refine ⟨_, _, _, .s (.s .z), ?_⟩); refine ⟨_, rfl, ?_⟩; go_frame) | ((with_reducible refine Hp.stv H ?_); refine ⟨rfl, ?_⟩; refine ⟨c_look rfl, ?_⟩; (first | refine ⟨.bool _, rfl, ?_⟩ | refine ⟨.int _ _, rfl, ?_⟩ | refine ⟨.string _, rfl, ?_⟩ | refine ⟨.slice _ _ _, rfl, ?_⟩ | refine ⟨.pointer _, rfl, ?_⟩); refine ⟨rfl, _, _, rfl, ?_⟩; (first | refine ⟨_, _, _, .z, ?_⟩ | refine ⟨_, _, _, .s .z, ?_⟩ | refine ⟨_, _, _, .s (.s .z), ?_⟩); refine ⟨⟨_, rfl⟩, ?_⟩; (clear H; intro w1 H; simp only [List.set] at H); go_frame) | ((with_reducible refine (put_any width n _).mono ?_); rintro _ w1 ⟨A1, c1, rfl, hown, hb⟩; replace H := H.callOwn hb hown; clear hb hown) | (at_builtin; (with_reducible refine Hp.wlAppW H ?_); refine ⟨3, A, c, l, rfl, rfl, A1, c1, putL width n, rfl, (H.o 0 rfl).rd, HLN.out, ?_⟩; (clear H; intro A' c' w1 H); simp only [List.set_cons_succ, List.set_cons_zero] at H; go_frame))
  refine wp_loop_rounds 2 ?_
  rw [rounds_succ]
  go_wp2_with (first | ((with_reducible refine Hp.ld H ?_); refine ⟨rfl, ?_⟩; refine ⟨c_look rfl, ?_⟩; refine ⟨_, _, rfl, ?_⟩; (first | refine ⟨_, _, _, .z, ?_⟩ | refine ⟨_, _, _, .s .z, ?_⟩ | refine ⟨_, _, _, .s (.s .z), ?_⟩); refine ⟨_, rfl, ?_⟩; go_frame) | ((with_reducible refine Hp.stv H ?_); refine ⟨rfl, ?_⟩; refine ⟨c_look rfl, ?_⟩; (first | refine ⟨.bool _, rfl, ?_⟩ | refine ⟨.int _ _, rfl, ?_⟩ | refine ⟨.string _, rfl, ?_⟩ | refine ⟨.slice _ _ _, rfl, ?_⟩ | refine ⟨.pointer _, rfl, ?_⟩); refine ⟨rfl, _, _, rfl, ?_⟩; (first | refine ⟨_, _, _, .z, ?_⟩ | refine ⟨_, _, _, .s .z, ?_⟩ | refine ⟨_, _, _, .s (.s .z), ?_⟩); refine ⟨⟨_, rfl⟩, ?_⟩; (clear H; intro w1 H; simp only [List.set] at H); go_frame) | ((with_reducible refine (put_any width n _).mono ?_); rintro _ w1 ⟨A1, c1, rfl, hown, hb⟩; replace H := H.callOwn hb hown; clear hb hown) | (at_builtin; (with_reducible refine Hp.wlAppW H ?_); refine ⟨3, A, c, l, rfl, rfl, A1, c1, putL width n, rfl, (H.o 0 rfl).rd, HLN.out, ?_⟩; (clear H; intro A' c' w1 H); simp only [List.set_cons_succ, List.set_cons_zero] at H; go_frame))
  rw [rounds_succ]
  go_wp2_with (first | ((with_reducible refine Hp.ld H ?_); refine ⟨rfl, ?_⟩; refine ⟨c_look rfl, ?_⟩; refine ⟨_, _, rfl, ?_⟩; (first | refine ⟨_, _, _, .z, ?_⟩ | refine ⟨_, _, _, .s .z, ?_⟩ | refine ⟨_, _, _, .s (.s .z), ?_⟩); refine ⟨_, rfl, ?_⟩; go_frame) | ((with_reducible refine Hp.stv H ?_); refine ⟨rfl, ?_⟩; refine ⟨c_look rfl, ?_⟩; (first | refine ⟨.bool _, rfl, ?_⟩ | refine ⟨.int _ _, rfl, ?_⟩ | refine ⟨.string _, rfl, ?_⟩ | refine ⟨.slice _ _ _, rfl, ?_⟩ | refine ⟨.pointer _, rfl, ?_⟩); refine ⟨rfl, _, _, rfl, ?_⟩; (first | refine ⟨_, _, _, .z, ?_⟩ | refine ⟨_, _, _, .s .z, ?_⟩ | refine ⟨_, _, _, .s (.s .z), ?_⟩); refine ⟨⟨_, rfl⟩, ?_⟩; (clear H; intro w1 H; simp only [List.set] at H); go_frame) | ((with_reducible refine (put_any width n _).mono ?_); rintro _ w1 ⟨A1, c1, rfl, hown, hb⟩; replace H := H.callOwn hb hown; clear hb hown) | (at_builtin; (with_reducible refine Hp.wlAppW H ?_); refine ⟨3, A, c, l, rfl, rfl, A1, c1, putL width n, rfl, (H.o 0 rfl).rd, HLN.out, ?_⟩; (clear H; intro A' c' w1 H); simp only [List.set_cons_succ, List.set_cons_zero] at H; go_frame))
  go_end0
  exact ⟨A', c', rfl, H.tail.tail⟩
set_option maxHeartbeats 2000000 in
theorem wtext1_any (s0 : ByteArray) (g g2 : Nat) (A : Option Addr) (c : Nat) (l : List UInt8) (w0 w : World) (L : List Item) (z0 : s0.size ≤ maxLen) (hl : l.length ≤ 1000000) (H : Hp w0 w (.blk g2 9 [.string s0] :: wrI g A c l :: .bytes A c l :: L)) :
    Calls Tryd.prog 52 #[.pointer (some ⟨g, 0, none⟩), .slice (some ⟨g2, 0, none⟩) 1 1] w (RetWr w0 g (l ++ textL s0.data.toList) L) := by
  have m0 := textL_length_le s0.data.toList
  have z1 := True.intro
  have z2 := True.intro
  go_enter Tryd.func52, Tryd.ntmps52
  go_wp2_with (first | ((with_reducible refine Hp.ld H ?_); refine ⟨rfl, ?_⟩; refine ⟨c_look rfl, ?_⟩; refine ⟨_, _, rfl, ?_⟩; (first | refine ⟨_, _, _, .z, ?_⟩ | refine ⟨_, _, _, .s .z, ?_⟩ | refine ⟨_, _, _, .s (.s .z), ?_⟩); refine ⟨_, rfl, ?_⟩; go_frame) | ((with_reducible refine Hp.stv H ?_); refine ⟨rfl, ?_⟩; refine ⟨c_look rfl, ?_⟩; (first | refine ⟨.bool _, rfl, ?_⟩ | refine ⟨.int _ _, rfl, ?_⟩ | refine ⟨.string _, rfl, ?_⟩ | refine ⟨.slice _ _ _, rfl, ?_⟩ | refine ⟨.pointer _, rfl, ?_⟩); refine ⟨rfl, _, _, rfl, ?_⟩; (first | refine ⟨_, _, _, .z, ?_⟩ | refine ⟨_, _, _, .s .z, ?_⟩ | refine ⟨_, _, _, .s (.s .z), ?_⟩); refine ⟨⟨_, rfl⟩, ?_⟩; (clear H; intro w1 H; simp only [List.set] at H); go_frame) | ((first | (with_reducible refine (text_any s0 _ z0).mono ?_) | (with_reducible refine (text_any s1 _ z1).mono ?_) | (with_reducible refine (text_any s2 _ z2).mono ?_)); rintro _ w1 ⟨A1, c1, rfl, hown, hb⟩; replace H := H.callOwn hb hown; clear hb hown) | (at_builtin; (with_reducible refine Hp.wlAppW H ?_); refine ⟨3, _, _, _, rfl, rfl, A1, c1, _, rfl, (H.o 0 rfl).rd, (by first | omega | (simp only [List.length_append]; omega)), ?_⟩; (clear H; intro A' c' w1 H); simp only [List.set_cons_succ, List.set_cons_zero] at H; go_frame))
  refine wp_loop_rounds 2 ?_
  rw [rounds_succ]
  go_wp2_with (first | ((with_reducible refine Hp.ld H ?_); refine ⟨rfl, ?_⟩; refine ⟨c_look rfl, ?_⟩; refine ⟨_, _, rfl, ?_⟩; (first | refine ⟨_, _, _, .z, ?_⟩ | refine ⟨_, _, _, .s .z, ?_⟩ | refine ⟨_, _, _, .s (.s .z), ?_⟩); refine ⟨_, rfl, ?_⟩; go_frame) | ((with_reducible refine Hp.stv H ?_); refine ⟨rfl, ?_⟩; refine ⟨c_look rfl, ?_⟩; (first | refine ⟨.bool _, rfl, ?_⟩ | refine ⟨.int _ _, rfl, ?_⟩ | refine ⟨.string _, rfl, ?_⟩ | refine ⟨.slice _ _ _, rfl, ?_⟩ | refine ⟨.pointer _, rfl, ?_⟩); refine ⟨rfl, _, _, rfl, ?_⟩; (first | refine ⟨_, _, _, .z, ?_⟩ | refine ⟨_, _, _, .s .z, ?_⟩ | refine ⟨_, _, _, .s (.s .z), ?_⟩); refine ⟨⟨_, rfl⟩, ?_⟩; (clear H; intro w1 H; simp only [List.set] at H); go_frame) | ((first | (with_reducible refine (text_any s0 _ z0).mono ?_) | (with_reducible refine (text_any s1 _ z1).mono ?_) | (with_reducible refine (text_any s2 _ z2).mono ?_)); rintro _ w1 ⟨A1, c1, rfl, hown, hb⟩; replace H := H.callOwn hb hown; clear hb hown) | (at_builtin; (with_reducible refine Hp.wlAppW H ?_); refine ⟨3, _, _, _, rfl, rfl, A1, c1, _, rfl, (H.o 0 rfl).rd, (by first | omega | (simp only [List.length_append]; omega)), ?_⟩; (clear H; intro A' c' w1 H); simp only [List.set_cons_succ, List.set_cons_zero] at H; go_frame))
  rw [rounds_succ]
  go_wp2_with (first | ((with_reducible refine Hp.ld H ?_); refine ⟨rfl, ?_⟩; refine ⟨c_look rfl, ?_⟩; refine ⟨_, _, rfl, ?_⟩; (first | refine ⟨_, _, _, .z, ?_⟩ | refine ⟨_, _, _, .s .z, ?_⟩ | refine ⟨_, _, _, .s (.s .z), ?_⟩); refine ⟨_, rfl, ?_⟩; go_frame) | ((with_reducible refine Hp.stv H ?_); refine ⟨rfl, ?_⟩; refine ⟨c_look rfl, ?_⟩; (first | refine ⟨.bool _, rfl, ?_⟩ | refine ⟨.int _ _, rfl, ?_⟩ | refine ⟨.string _, rfl, ?_⟩ | refine ⟨.slice _ _ _, rfl, ?_⟩ | refine ⟨.pointer _, rfl, ?_⟩); refine ⟨rfl, _, _, rfl, ?_⟩; (first | refine ⟨_, _, _, .z, ?_⟩ | refine ⟨_, _, _, .s .z, ?_⟩ | refine ⟨_, _, _, .s (.s .z), ?_⟩); refine ⟨⟨_, rfl⟩, ?_⟩; (clear H; intro w1 H; simp only [List.set] at H); go_frame) | ((first | (with_reducible refine (text_any s0 _ z0).mono ?_) | (with_reducible refine (text_any s1 _ z1).mono ?_) | (with_reducible refine (text_any s2 _ z2).mono ?_)); rintro _ w1 ⟨A1, c1, rfl, hown, hb⟩; replace H := H.callOwn hb hown; clear hb hown) | (at_builtin; (with_reducible refine Hp.wlAppW H ?_); refine ⟨3, _, _, _, rfl, rfl, A1, c1, _, rfl, (H.o 0 rfl).rd, (by first | omega | (simp only [List.length_append]; omega)), ?_⟩; (clear H; intro A' c' w1 H); simp only [List.set_cons_succ, List.set_cons_zero] at H; go_frame))
  go_end0
  exact ⟨A', c', rfl, H.tail.tail⟩
set_option maxHeartbeats 2000000 in
theorem wtext3_any (s0 s1 s2 : ByteArray) (g g2 : Nat) (A : Option Addr) (c : Nat) (l : List UInt8) (w0 w : World) (L : List Item) (z0 : s0.size ≤ maxLen) (z1 : s1.size ≤ maxLen) (z2 : s2.size ≤ maxLen) (hl : l.length ≤ 1000000) (H : Hp w0 w (.blk g2 9 [.string s0, .string s1, .string s2] :: wrI g A c l :: .bytes A c l :: L)) :
    Calls Tryd.prog 52 #[.pointer (some ⟨g, 0, none⟩), .slice (some ⟨g2, 0, none⟩) 3 3] w (RetWr w0 g (((l ++ textL s0.data.toList) ++ textL s1.data.toList) ++ textL s2.data.toList) L) := by
  have m0 := textL_length_le s0.data.toList
  have m1 := textL_length_le s1.data.toList
  have m2 := textL_length_le s2.data.toList
  go_enter Tryd.func52, Tryd.ntmps52
  go_wp2_with (first | ((with_reducible refine Hp.ld H ?_); refine ⟨rfl, ?_⟩; refine ⟨c_look rfl, ?_⟩; refine ⟨_, _, rfl, ?_⟩; (first | refine ⟨_, _, _, .z, ?_⟩ | refine ⟨_, _, _, .s .z, ?_⟩ | refine ⟨_, _, _, .s (.s .z), ?_⟩); refine ⟨_, rfl, ?_⟩; go_frame) | ((with_reducible refine Hp.stv H ?_); refine ⟨rfl, ?_⟩; refine ⟨c_look rfl, ?_⟩; (first | refine ⟨.bool _, rfl, ?_⟩ | refine ⟨.int _ _, rfl, ?_⟩ | refine ⟨.string _, rfl, ?_⟩ | refine ⟨.slice _ _ _, rfl, ?_⟩ | refine ⟨.pointer _, rfl, ?_⟩); refine ⟨rfl, _, _, rfl, ?_⟩; (first | refine ⟨_, _, _, .z, ?_⟩ | refine ⟨_, _, _, .s .z, ?_⟩ | refine ⟨_, _, _, .s (.s .z), ?_⟩); refine ⟨⟨_, rfl⟩, ?_⟩; (clear H; intro w1 H; simp only [List.set] at H); go_frame) | ((first | (with_reducible refine (text_any s0 _ z0).mono ?_) | (with_reducible refine (text_any s1 _ z1).mono ?_) | (with_reducible refine (text_any s2 _ z2).mono ?_)); rintro _ w1 ⟨A1, c1, rfl, hown, hb⟩; replace H := H.callOwn hb hown; clear hb hown) | (at_builtin; (with_reducible refine Hp.wlAppW H ?_); refine ⟨3, _, _, _, rfl, rfl, A1, c1, _, rfl, (H.o 0 rfl).rd, (by first | omega | (simp only [List.length_append]; omega)), ?_⟩; (clear H; intro A' c' w1 H); simp only [List.set_cons_succ, List.set_cons_zero] at H; go_frame))
  refine wp_loop_rounds 4 ?_
  rw [rounds_succ]
  go_wp2_with (first | ((with_reducible refine Hp.ld H ?_); refine ⟨rfl, ?_⟩; refine ⟨c_look rfl, ?_⟩; refine ⟨_, _, rfl, ?_⟩; (first | refine ⟨_, _, _, .z, ?_⟩ | refine ⟨_, _, _, .s .z, ?_⟩ | refine ⟨_, _, _, .s (.s .z), ?_⟩); refine ⟨_, rfl, ?_⟩; go_frame) | ((with_reducible refine Hp.stv H ?_); refine ⟨rfl, ?_⟩; refine ⟨c_look rfl, ?_⟩; (first | refine ⟨.bool _, rfl, ?_⟩ | refine ⟨.int _ _, rfl, ?_⟩ | refine ⟨.string _, rfl, ?_⟩ | refine ⟨.slice _ _ _, rfl, ?_⟩ | refine ⟨.pointer _, rfl, ?_⟩); refine ⟨rfl, _, _, rfl, ?_⟩; (first | refine ⟨_, _, _, .z, ?_⟩ | refine ⟨_, _, _, .s .z, ?_⟩ | refine ⟨_, _, _, .s (.s .z), ?_⟩); refine ⟨⟨_, rfl⟩, ?_⟩; (clear H; intro w1 H; simp only [List.set] at H); go_frame) | ((first | (with_reducible refine (text_any s0 _ z0).mono ?_) | (with_reducible refine (text_any s1 _ z1).mono ?_) | (with_reducible refine (text_any s2 _ z2).mono ?_)); rintro _ w1 ⟨A1, c1, rfl, hown, hb⟩; replace H := H.callOwn hb hown; clear hb hown) | (at_builtin; (with_reducible refine Hp.wlAppW H ?_); refine ⟨3, _, _, _, rfl, rfl, A1, c1, _, rfl, (H.o 0 rfl).rd, (by first | omega | (simp only [List.length_append]; omega)), ?_⟩; (clear H; intro A' c' w1 H); simp only [List.set_cons_succ, List.set_cons_zero] at H; go_frame))
  replace H := H.tail
  rw [rounds_succ]
  go_wp2_with (first | ((with_reducible refine Hp.ld H ?_); refine ⟨rfl, ?_⟩; refine ⟨c_look rfl, ?_⟩; refine ⟨_, _, rfl, ?_⟩; (first | refine ⟨_, _, _, .z, ?_⟩ | refine ⟨_, _, _, .s .z, ?_⟩ | refine ⟨_, _, _, .s (.s .z), ?_⟩); refine ⟨_, rfl, ?_⟩; go_frame) | ((with_reducible refine Hp.stv H ?_); refine ⟨rfl, ?_⟩; refine ⟨c_look rfl, ?_⟩; (first | refine ⟨.bool _, rfl, ?_⟩ | refine ⟨.int _ _, rfl, ?_⟩ | refine ⟨.string _, rfl, ?_⟩ | refine ⟨.slice _ _ _, rfl, ?_⟩ | refine ⟨.pointer _, rfl, ?_⟩); refine ⟨rfl, _, _, rfl, ?_⟩; (first | refine ⟨_, _, _, .z, ?_⟩ | refine ⟨_, _, _, .s .z, ?_⟩ | refine ⟨_, _, _, .s (.s .z), ?_⟩); refine ⟨⟨_, rfl⟩, ?_⟩; (clear H; intro w1 H; simp only [List.set] at H); go_frame) | ((first | (with_reducible refine (text_any s0 _ z0).mono ?_) | (with_reducible refine (text_any s1 _ z1).mono ?_) | (with_reducible refine (text_any s2 _ z2).mono ?_)); rintro _ w1 ⟨A1, c1, rfl, hown, hb⟩; replace H := H.callOwn hb hown; clear hb hown) | (at_builtin; (with_reducible refine Hp.wlAppW H ?_); refine ⟨3, _, _, _, rfl, rfl, A1, c1, _, rfl, (H.o 0 rfl).rd, (by first | omega | (simp only [List.length_append]; omega)), ?_⟩; (clear H; intro A' c' w1 H); simp only [List.set_cons_succ, List.set_cons_zero] at H; go_frame))
  replace H := H.tail
  rw [rounds_succ]
  go_wp2_with (first | ((with_reducible refine Hp.ld H ?_); refine ⟨rfl, ?_⟩; refine ⟨c_look rfl, ?_⟩; refine ⟨_, _, rfl, ?_⟩; (first | refine ⟨_, _, _, .z, ?_⟩ | refine ⟨_, _, _, .s .z, ?_⟩ | refine ⟨_, _, _, .s (.s .z), ?_⟩); refine ⟨_, rfl, ?_⟩; go_frame) | ((with_reducible refine Hp.stv H ?_); refine ⟨rfl, ?_⟩; refine ⟨c_look rfl, ?_⟩; (first | refine ⟨.bool _, rfl, ?_⟩ | refine ⟨.int _ _, rfl, ?_⟩ | refine ⟨.string _, rfl, ?_⟩ | refine ⟨.slice _ _ _, rfl, ?_⟩ | refine ⟨.pointer _, rfl, ?_⟩); refine ⟨rfl, _, _, rfl, ?_⟩; (first | refine ⟨_, _, _, .z, ?_⟩ | refine ⟨_, _, _, .s .z, ?_⟩ | refine ⟨_, _, _, .s (.s .z), ?_⟩); refine ⟨⟨_, rfl⟩, ?_⟩; (clear H; intro w1 H; simp only [List.set] at H); go_frame) | ((first | (with_reducible refine (text_any s0 _ z0).mono ?_) | (with_reducible refine (text_any s1 _ z1).mono ?_) | (with_reducible refine (text_any s2 _ z2).mono ?_)); rintro _ w1 ⟨A1, c1, rfl, hown, hb⟩; replace H := H.callOwn hb hown; clear hb hown) | (at_builtin; (with_reducible refine Hp.wlAppW H ?_); refine ⟨3, _, _, _, rfl, rfl, A1, c1, _, rfl, (H.o 0 rfl).rd, (by first | omega | (simp only [List.length_append]; omega)), ?_⟩; (clear H; intro A' c' w1 H); simp only [List.set_cons_succ, List.set_cons_zero] at H; go_frame))
  rw [rounds_succ]
  go_wp2_with (first | ((with_reducible refine Hp.ld H ?_); refine ⟨rfl, ?_⟩; refine ⟨c_look rfl, ?_⟩; refine ⟨_, _, rfl, ?_⟩; (first | refine ⟨_, _, _, .z, ?_⟩ | refine ⟨_, _, _, .s .z, ?_⟩ | refine ⟨_, _, _, .s (.s .z), ?_⟩); refine ⟨_, rfl, ?_⟩; go_frame) | ((with_reducible refine Hp.stv H ?_); refine ⟨rfl, ?_⟩; refine ⟨c_look rfl, ?_⟩; (first | refine ⟨.bool _, rfl, ?_⟩ | refine ⟨.int _ _, rfl, ?_⟩ | refine ⟨.string _, rfl, ?_⟩ | refine ⟨.slice _ _ _, rfl, ?_⟩ | refine ⟨.pointer _, rfl, ?_⟩); refine ⟨rfl, _, _, rfl, ?_⟩; (first | refine ⟨_, _, _, .z, ?_⟩ | refine ⟨_, _, _, .s .z, ?_⟩ | refine ⟨_, _, _, .s (.s .z), ?_⟩); refine ⟨⟨_, rfl⟩, ?_⟩; (clear H; intro w1 H; simp only [List.set] at H); go_frame) | ((first | (with_reducible refine (text_any s0 _ z0).mono ?_) | (with_reducible refine (text_any s1 _ z1).mono ?_) | (with_reducible refine (text_any s2 _ z2).mono ?_)); rintro _ w1 ⟨A1, c1, rfl, hown, hb⟩; replace H := H.callOwn hb hown; clear hb hown) | (at_builtin; (with_reducible refine Hp.wlAppW H ?_); refine ⟨3, _, _, _, rfl, rfl, A1, c1, _, rfl, (H.o 0 rfl).rd, (by first | omega | (simp only [List.length_append]; omega)), ?_⟩; (clear H; intro A' c' w1 H); simp only [List.set_cons_succ, List.set_cons_zero] at H; go_frame))
  go_end0
  exact ⟨A', c', rfl, H.tail.tail⟩
set_option maxHeartbeats 2000000 in
theorem wbal_any (r p : Int) (g : Nat) (A : Option Addr) (c : Nat) (l : List UInt8) (w0 w : World) (L : List Item) (hl : l.length ≤ 100000) (H : Hp w0 w (wrI g A c l :: .bytes A c l :: L)) :
    Calls Tryd.prog 53 #[.pointer (some ⟨g, 0, none⟩), .agg (baC r p).toArray] w (RetWr w0 g ((l ++ putL 6 r) ++ putL 1 p) L) := by
  have m0 := putL_length6 6 r
  go_enter Tryd.func53, Tryd.ntmps53
  go_wp2_with (first | ((with_reducible refine Hp.box H ?_); (first | refine ⟨rfl, baC r p, rfl, ?_⟩ | refine ⟨rfl, enC e, rfl, ?_⟩ | refine ⟨rfl, mgC m, rfl, ?_⟩); (clear H; intro g1 w1 H); (replace H := H.rot3); go_frame) | ((with_reducible refine Hp.ld H ?_); refine ⟨rfl, ?_⟩; refine ⟨c_look rfl, ?_⟩; refine ⟨_, _, rfl, ?_⟩; (first | refine ⟨_, _, _, .z, ?_⟩ | refine ⟨_, _, _, .s .z, ?_⟩ | refine ⟨_, _, _, .s (.s .z), ?_⟩); refine ⟨_, rfl, ?_⟩; go_frame) | ((with_reducible refine Hp.bslI (parts := [_]) H ?_); refine ⟨rfl, rfl, rfl, [.int .i64 _], rfl, rfl, rfl, ?_⟩; (clear H; intro g2 w1 H); go_frame) | ((with_reducible refine (wnum_any _ _ _ _ _ _ _ _ _ _ (by first | omega | (simp only [List.length_append]; omega)) H).mono ?_); rintro _ w1 ⟨A', c', rfl, HQ⟩; replace H := HQ; clear HQ))
  go_end0
  exact ⟨A', c', rfl, H.del3⟩
/-- who says something, or hears it -/
def whoN (i : Int) : Int := if i < 0 then 127 - i else i
set_option maxHeartbeats 2000000 in
theorem wwho_any (i : Int) (g : Nat) (A : Option Addr) (c : Nat) (l : List UInt8) (w0 w : World) (L : List Item) (hl : l.length ≤ 100000) (hi : -1000 ≤ i) (H : Hp w0 w (wrI g A c l :: .bytes A c l :: L)) :
    Calls Tryd.prog 30 #[.pointer (some ⟨g, 0, none⟩), .int .i64 i] w (RetWr w0 g (l ++ putL 1 (whoN i)) L) := by
  unfold whoN
  by_cases h : i < 0
  · have hw : IntKind.i64.wrap (127 - i) = 127 - i := IntWalk.i64_in _ (by omega)
    have d : decide (i < 0) = true := decide_eq_true h
    rw [if_pos h]
    clear h hi
    go_enter Tryd.func30, Tryd.ntmps30
    go_wp2_with (first | ((with_reducible refine Hp.bslI (parts := [_]) H ?_); refine ⟨rfl, rfl, rfl, [.int .i64 _], rfl, rfl, rfl, ?_⟩; (clear H; intro g2 w1 H); go_frame) | ((with_reducible refine (wnum_any _ _ _ _ _ _ _ _ _ _ (by first | omega | (simp only [List.length_append]; omega)) H).mono ?_); rintro _ w1 ⟨A', c', rfl, HQ⟩; replace H := HQ; clear HQ))
    go_end0
    exact ⟨A', c', rfl, H⟩
  · have d : decide (i < 0) = false := decide_eq_false h
    rw [if_neg h]
    clear h hi
    go_enter Tryd.func30, Tryd.ntmps30
    go_wp2_with (first | ((with_reducible refine Hp.bslI (parts := [_]) H ?_); refine ⟨rfl, rfl, rfl, [.int .i64 _], rfl, rfl, rfl, ?_⟩; (clear H; intro g2 w1 H); go_frame) | ((with_reducible refine (wnum_any _ _ _ _ _ _ _ _ _ _ (by first | omega | (simp only [List.length_append]; omega)) H).mono ?_); rintro _ w1 ⟨A', c', rfl, HQ⟩; replace H := HQ; clear HQ))
    go_end0
    exact ⟨A', c', rfl, H⟩
theorem bytesL_len (e : En) : (bytesL e).length ≤ 52 := by
  unfold bytesL
  split
  · rename_i h
    exact (entL_len h).2
  · simp
set_option maxHeartbeats 2000000 in
theorem went_any (e : En) (hsm : Sm e) (hu : U8 e) (g : Nat) (A : Option Addr) (c : Nat) (l : List UInt8) (w0 w : World) (L : List Item) (hl : l.length ≤ 100000) (H : Hp w0 w (wrI g A c l :: .bytes A c l :: L)) :
    Calls Tryd.prog 54 #[.pointer (some ⟨g, 0, none⟩), .agg (enC e).toArray] w (RetWr w0 g (l ++ bytesL e) L) := by
  have m0 := bytesL_len e
  go_enter Tryd.func54, Tryd.ntmps54
  go_wp2_with (first | ((with_reducible refine Hp.box H ?_); (first | refine ⟨rfl, baC r p, rfl, ?_⟩ | refine ⟨rfl, enC e, rfl, ?_⟩ | refine ⟨rfl, mgC m, rfl, ?_⟩); (clear H; intro g1 w1 H); (replace H := H.rot3); go_frame) | ((with_reducible refine Hp.ld H ?_); refine ⟨rfl, ?_⟩; refine ⟨c_look rfl, ?_⟩; refine ⟨_, _, rfl, ?_⟩; (first | refine ⟨_, _, _, .z, ?_⟩ | refine ⟨_, _, _, .s .z, ?_⟩ | refine ⟨_, _, _, .s (.s .z), ?_⟩ | refine ⟨_, _, _, .s (.s (.s .z)), ?_⟩); refine ⟨_, rfl, ?_⟩; go_frame) | ((with_reducible refine Hp.lda H ?_); refine ⟨rfl, by kernel_rfl, ?_⟩; refine ⟨_, s_look rfl, ?_⟩; refine ⟨_, rfl, ?_⟩; (first | refine ⟨_, _, _, .z, ?_⟩ | refine ⟨_, _, _, .s .z, ?_⟩ | refine ⟨_, _, _, .s (.s .z), ?_⟩ | refine ⟨_, _, _, .s (.s (.s .z)), ?_⟩); refine ⟨rfl, ?_⟩; go_frame) | ((with_reducible refine Hp.lds H ?_); refine ⟨rfl, by kernel_rfl, ?_⟩; refine ⟨_, s_look rfl, ?_⟩; refine ⟨_, _, rfl, ?_⟩; (first | refine ⟨_, _, _, .z, ?_⟩ | refine ⟨_, _, _, .s .z, ?_⟩ | refine ⟨_, _, _, .s (.s .z), ?_⟩ | refine ⟨_, _, _, .s (.s (.s .z)), ?_⟩); refine ⟨enC e, rfl, rfl, ?_⟩; go_frame) | ((with_reducible refine Hp.stv H ?_); refine ⟨rfl, ?_⟩; refine ⟨c_look rfl, ?_⟩; (first | refine ⟨.bool _, rfl, ?_⟩ | refine ⟨.int _ _, rfl, ?_⟩ | refine ⟨.string _, rfl, ?_⟩ | refine ⟨.slice _ _ _, rfl, ?_⟩ | refine ⟨.pointer _, rfl, ?_⟩); refine ⟨rfl, _, _, rfl, ?_⟩; (first | refine ⟨_, _, _, .z, ?_⟩ | refine ⟨_, _, _, .s .z, ?_⟩ | refine ⟨_, _, _, .s (.s .z), ?_⟩ | refine ⟨_, _, _, .s (.s (.s .z)), ?_⟩); refine ⟨⟨_, rfl⟩, ?_⟩; (clear H; intro w1 H; simp only [List.set] at H); go_frame) | ((with_reducible refine (ebytes_any e hsm hu _).mono ?_); rintro _ w1 ⟨A1, c1, rfl, hown, hb⟩; replace H := H.callOwn hb hown; clear hb hown) | (at_builtin; (with_reducible refine Hp.wlAppW H ?_); refine ⟨2, _, _, _, rfl, rfl, A1, c1, _, rfl, (H.o 0 rfl).rd, (by first | omega | (simp only [List.length_append]; omega)), ?_⟩; (clear H; intro A' c' w1 H); simp only [List.set_cons_succ, List.set_cons_zero] at H; go_frame))
  go_end0
  exact ⟨A', c', rfl, H.tail.del3⟩
end Go.Proofs.YtajgikjmoeemnaaDoor

/-
  THE WALK OF (*message.writer).field, letter by letter. (Printed by wip/bin/genmsgt.py.)
-/
namespace Go.Proofs.YtajgikjmoeemnaaDoor
set_option maxRecDepth 100000
open Go.RowKit
set_option linter.unusedVariables false
set_option linter.unusedSimpArgs false
def repL (x : Rp) : List UInt8 := (putL 6 x.ix ++ putL 1 x.st) ++ ((if x.st = 4 then [] else putL 6 x.r ++ putL 1 x.p) ++ (if x.st = 2 then bytesL x.e else []))
def repsL (rs : List Rp) : List UInt8 := (rs.map repL).flatten
def fieldL (c : Nat) (m : Mg) (rs : List Rp) (l : List UInt8) : List UInt8 :=
  if c = 115 then putL 6 m.sq else if c = 111 then putL 1 m.ok ++ (textL m.o0.data.toList ++ (textL m.o1.data.toList ++ textL m.o2.data.toList)) else if c = 114 then putL 2 m.re ++ (putL 1 (if m.rf then 1 else 0) ++ textL m.rv.data.toList)
  else if c = 98 then putL 6 m.br ++ putL 1 m.bp else if c = 105 then putL 6 m.ix else if c = 122 then putL 6 m.ix else if c = 99 then putL 6 m.cm else if c = 110 then putL 6 m.nc
  else if c = 101 then bytesL m.e else if c = 108 then putL 1 (rs.length : Int) ++ repsL rs else if c = 107 then putL 1 m.ck else if c = 109 then putL 1 m.ct
  else textL l
theorem MgN.uk {m : Mg} (h : MgN m) : 0 ≤ m.k ∧ m.k < 256 := h.1
theorem MgN.uo {m : Mg} (h : MgN m) : 0 ≤ m.ok ∧ m.ok < 256 := h.2.2.2.2.2.2.2.2.2.2.2.2.2.2.2.1
theorem MgN.se {m : Mg} (h : MgN m) : Sm m.e := h.2.2.2.2.2.2.2.2.2.2.2.1
theorem MgN.ue {m : Mg} (h : MgN m) : U8 m.e := h.2.2.2.2.2.2.2.2.2.2.2.2.1
theorem MgN.s0 {m : Mg} (h : MgN m) : m.o0.size ≤ maxLen := h.2.2.2.2.2.2.2.2.2.2.2.2.2.2.2.2.1
theorem MgN.s1 {m : Mg} (h : MgN m) : m.o1.size ≤ maxLen := h.2.2.2.2.2.2.2.2.2.2.2.2.2.2.2.2.2.1
theorem MgN.s2 {m : Mg} (h : MgN m) : m.o2.size ≤ maxLen := h.2.2.2.2.2.2.2.2.2.2.2.2.2.2.2.2.2.2.1
theorem MgN.sv {m : Mg} (h : MgN m) : m.rv.size ≤ maxLen := h.2.2.2.2.2.2.2.2.2.2.2.2.2.2.2.2.2.2.2.2
set_option maxHeartbeats 4000000 in
theorem field_115 (m : Mg) (rs : List Rp) (l : List UInt8) (g : Nat) (A : Option Addr) (c : Nat) (l0 : List UInt8) (w0 w : World) (L : List Item) (hl : l0.length ≤ 10000) (hN : MgN m) (hR : MgR w0 m rs l) (H : Hp w0 w (wrI g A c l0 :: .bytes A c l0 :: L)) :
    Calls Tryd.prog 32 #[.pointer (some ⟨g, 0, none⟩), .agg (mgC m).toArray, .int .i32 115] w (RetWr w0 g (l0 ++ fieldL 115 m rs l) L) := by
  have HF : Hid (fieldL 115 m rs l = putL 6 m.sq) := Lib.hid rfl
  have hY := True.intro
  go_enter Tryd.func32, Tryd.ntmps32; go_wp2_with (first | ((with_reducible refine Hp.box H ?_); (first | refine ⟨rfl, mgC m, rfl, ?_⟩); (clear H; intro g1 w1 H); (replace H := H.rot3); go_frame) | ((with_reducible refine Hp.allo H ?_); refine ⟨rfl, ?_⟩; refine ⟨_, z_look rfl, ?_⟩; (clear H; intro g1 w1 H); go_frame) | ((with_reducible refine Hp.ld H ?_); refine ⟨rfl, ?_⟩; refine ⟨c_look rfl, ?_⟩; refine ⟨_, _, rfl, ?_⟩; (first | refine ⟨_, _, _, .z, ?_⟩ | refine ⟨_, _, _, .s .z, ?_⟩ | refine ⟨_, _, _, .s (.s .z), ?_⟩ | refine ⟨_, _, _, .s (.s (.s .z)), ?_⟩); refine ⟨_, rfl, ?_⟩; go_frame) | ((with_reducible refine Hp.lda H ?_); refine ⟨rfl, by kernel_rfl, ?_⟩; refine ⟨_, s_look rfl, ?_⟩; refine ⟨_, rfl, ?_⟩; (first | refine ⟨_, _, _, .z, ?_⟩ | refine ⟨_, _, _, .s .z, ?_⟩ | refine ⟨_, _, _, .s (.s .z), ?_⟩ | refine ⟨_, _, _, .s (.s (.s .z)), ?_⟩); refine ⟨rfl, ?_⟩; go_frame) | ((with_reducible refine Hp.lds H ?_); refine ⟨rfl, by kernel_rfl, ?_⟩; refine ⟨_, s_look rfl, ?_⟩; refine ⟨_, _, rfl, ?_⟩; (first | refine ⟨_, _, _, .z, ?_⟩ | refine ⟨_, _, _, .s .z, ?_⟩ | refine ⟨_, _, _, .s (.s .z), ?_⟩ | refine ⟨_, _, _, .s (.s (.s .z)), ?_⟩); (first | refine ⟨baC m.br m.bp, rfl, rfl, ?_⟩ | refine ⟨enC m.e, rfl, rfl, ?_⟩); go_frame) | ((with_reducible refine Hp.sta H ?_); refine ⟨rfl, ?_⟩; refine ⟨_, s_look rfl, ?_⟩; refine ⟨_, rfl, _, rfl, rfl, ?_⟩; (first | refine ⟨_, _, _, .z, ?_⟩ | refine ⟨_, _, _, .s .z, ?_⟩ | refine ⟨_, _, _, .s (.s .z), ?_⟩ | refine ⟨_, _, _, .s (.s (.s .z)), ?_⟩); refine ⟨rfl, rfl, ?_⟩; (clear H; intro w1 H; simp only [List.set] at H); go_frame) | ((with_reducible refine Hp.str H ?_); refine ⟨rfl, ?_⟩; refine ⟨_, s_look rfl, ?_⟩; refine ⟨_, _, rfl, _, rfl, rfl, ?_⟩; (first | refine ⟨_, _, _, .z, ?_⟩ | refine ⟨_, _, _, .s .z, ?_⟩ | refine ⟨_, _, _, .s (.s .z), ?_⟩ | refine ⟨_, _, _, .s (.s (.s .z)), ?_⟩); refine ⟨rfl, _, rfl, _, rfl, Nat.le_of_ble_eq_true rfl, ?_⟩; (clear H; intro w1 H; simp only [List.set] at H); go_frame) | ((with_reducible refine Hp.bslI (parts := [_]) H ?_); refine ⟨rfl, rfl, rfl, [.int .i64 _], rfl, rfl, rfl, ?_⟩; (clear H; intro g2 w1 H); go_frame) | ((with_reducible refine Hp.bslS (parts := [_]) H ?_); refine ⟨rfl, rfl, rfl, [.string _], rfl, rfl, rfl, ?_⟩; (clear H; intro g2 w1 H); go_frame) | ((with_reducible refine Hp.bslS (parts := [_, _, _]) H ?_); refine ⟨rfl, rfl, rfl, [.string _, .string _, .string _], rfl, rfl, rfl, ?_⟩; (clear H; intro g2 w1 H); go_frame) | ((with_reducible refine (wnum_any _ _ _ _ _ _ _ _ _ _ (by first | omega | (simp only [List.length_append]; omega)) H).mono ?_); rintro _ w1 ⟨A', c', rfl, HQ⟩; replace H := HQ; clear HQ) | ((with_reducible refine (wtext1_any _ _ _ _ _ _ _ _ _ hN.sv (by first | omega | (simp only [List.length_append]; omega)) H).mono ?_); rintro _ w1 ⟨A', c', rfl, HQ⟩; replace H := HQ; clear HQ) | ((with_reducible refine (wtext1_any _ _ _ _ _ _ _ _ _ hY (by first | omega | (simp only [List.length_append]; omega)) H).mono ?_); rintro _ w1 ⟨A', c', rfl, HQ⟩; replace H := HQ; clear HQ) | ((with_reducible refine (wtext3_any _ _ _ _ _ _ _ _ _ _ _ hN.s0 hN.s1 hN.s2 (by first | omega | (simp only [List.length_append]; omega)) H).mono ?_); rintro _ w1 ⟨A', c', rfl, HQ⟩; replace H := HQ; clear HQ) | ((with_reducible refine (wbal_any _ _ _ _ _ _ _ _ _ (by first | omega | (simp only [List.length_append]; omega)) H).mono ?_); rintro _ w1 ⟨A', c', rfl, HQ⟩; replace H := HQ; clear HQ) | ((with_reducible refine (went_any _ hN.se hN.ue _ _ _ _ _ _ _ (by first | omega | (simp only [List.length_append]; omega)) H).mono ?_); rintro _ w1 ⟨A', c', rfl, HQ⟩; replace H := HQ; clear HQ) | ((with_reducible refine Hp.cvS H ?_); refine ⟨rfl, _, _, _, rfl, l, (hR.yr.below H.below), hR.n2, ?_⟩; go_frame)); go_end0; exact ⟨A', c', rfl, by simpa only [HF.out, List.append_assoc] using H.del3⟩
set_option maxHeartbeats 4000000 in
theorem field_111 (m : Mg) (rs : List Rp) (l : List UInt8) (g : Nat) (A : Option Addr) (c : Nat) (l0 : List UInt8) (w0 w : World) (L : List Item) (hl : l0.length ≤ 10000) (hN : MgN m) (hR : MgR w0 m rs l) (H : Hp w0 w (wrI g A c l0 :: .bytes A c l0 :: L)) :
    Calls Tryd.prog 32 #[.pointer (some ⟨g, 0, none⟩), .agg (mgC m).toArray, .int .i32 111] w (RetWr w0 g (l0 ++ fieldL 111 m rs l) L) := by
  have HF : Hid (fieldL 111 m rs l = putL 1 m.ok ++ (textL m.o0.data.toList ++ (textL m.o1.data.toList ++ textL m.o2.data.toList))) := Lib.hid rfl
  have m0 := putL_length6 1 m.ok
  have hY := True.intro
  have hu := hN.uo
  have hw : IntKind.i64.wrap m.ok = m.ok := IntWalk.i64_in _ (by omega)
  clear hu
  go_enter Tryd.func32, Tryd.ntmps32; go_wp2_with (first | ((with_reducible refine Hp.box H ?_); (first | refine ⟨rfl, mgC m, rfl, ?_⟩); (clear H; intro g1 w1 H); (replace H := H.rot3); go_frame) | ((with_reducible refine Hp.allo H ?_); refine ⟨rfl, ?_⟩; refine ⟨_, z_look rfl, ?_⟩; (clear H; intro g1 w1 H); go_frame) | ((with_reducible refine Hp.ld H ?_); refine ⟨rfl, ?_⟩; refine ⟨c_look rfl, ?_⟩; refine ⟨_, _, rfl, ?_⟩; (first | refine ⟨_, _, _, .z, ?_⟩ | refine ⟨_, _, _, .s .z, ?_⟩ | refine ⟨_, _, _, .s (.s .z), ?_⟩ | refine ⟨_, _, _, .s (.s (.s .z)), ?_⟩); refine ⟨_, rfl, ?_⟩; go_frame) | ((with_reducible refine Hp.lda H ?_); refine ⟨rfl, by kernel_rfl, ?_⟩; refine ⟨_, s_look rfl, ?_⟩; refine ⟨_, rfl, ?_⟩; (first | refine ⟨_, _, _, .z, ?_⟩ | refine ⟨_, _, _, .s .z, ?_⟩ | refine ⟨_, _, _, .s (.s .z), ?_⟩ | refine ⟨_, _, _, .s (.s (.s .z)), ?_⟩); refine ⟨rfl, ?_⟩; go_frame) | ((with_reducible refine Hp.lds H ?_); refine ⟨rfl, by kernel_rfl, ?_⟩; refine ⟨_, s_look rfl, ?_⟩; refine ⟨_, _, rfl, ?_⟩; (first | refine ⟨_, _, _, .z, ?_⟩ | refine ⟨_, _, _, .s .z, ?_⟩ | refine ⟨_, _, _, .s (.s .z), ?_⟩ | refine ⟨_, _, _, .s (.s (.s .z)), ?_⟩); (first | refine ⟨baC m.br m.bp, rfl, rfl, ?_⟩ | refine ⟨enC m.e, rfl, rfl, ?_⟩); go_frame) | ((with_reducible refine Hp.sta H ?_); refine ⟨rfl, ?_⟩; refine ⟨_, s_look rfl, ?_⟩; refine ⟨_, rfl, _, rfl, rfl, ?_⟩; (first | refine ⟨_, _, _, .z, ?_⟩ | refine ⟨_, _, _, .s .z, ?_⟩ | refine ⟨_, _, _, .s (.s .z), ?_⟩ | refine ⟨_, _, _, .s (.s (.s .z)), ?_⟩); refine ⟨rfl, rfl, ?_⟩; (clear H; intro w1 H; simp only [List.set] at H); go_frame) | ((with_reducible refine Hp.str H ?_); refine ⟨rfl, ?_⟩; refine ⟨_, s_look rfl, ?_⟩; refine ⟨_, _, rfl, _, rfl, rfl, ?_⟩; (first | refine ⟨_, _, _, .z, ?_⟩ | refine ⟨_, _, _, .s .z, ?_⟩ | refine ⟨_, _, _, .s (.s .z), ?_⟩ | refine ⟨_, _, _, .s (.s (.s .z)), ?_⟩); refine ⟨rfl, _, rfl, _, rfl, Nat.le_of_ble_eq_true rfl, ?_⟩; (clear H; intro w1 H; simp only [List.set] at H); go_frame) | ((with_reducible refine Hp.bslI (parts := [_]) H ?_); refine ⟨rfl, rfl, rfl, [.int .i64 _], rfl, rfl, rfl, ?_⟩; (clear H; intro g2 w1 H); go_frame) | ((with_reducible refine Hp.bslS (parts := [_]) H ?_); refine ⟨rfl, rfl, rfl, [.string _], rfl, rfl, rfl, ?_⟩; (clear H; intro g2 w1 H); go_frame) | ((with_reducible refine Hp.bslS (parts := [_, _, _]) H ?_); refine ⟨rfl, rfl, rfl, [.string _, .string _, .string _], rfl, rfl, rfl, ?_⟩; (clear H; intro g2 w1 H); go_frame) | ((with_reducible refine (wnum_any _ _ _ _ _ _ _ _ _ _ (by first | omega | (simp only [List.length_append]; omega)) H).mono ?_); rintro _ w1 ⟨A', c', rfl, HQ⟩; replace H := HQ; clear HQ) | ((with_reducible refine (wtext1_any _ _ _ _ _ _ _ _ _ hN.sv (by first | omega | (simp only [List.length_append]; omega)) H).mono ?_); rintro _ w1 ⟨A', c', rfl, HQ⟩; replace H := HQ; clear HQ) | ((with_reducible refine (wtext1_any _ _ _ _ _ _ _ _ _ hY (by first | omega | (simp only [List.length_append]; omega)) H).mono ?_); rintro _ w1 ⟨A', c', rfl, HQ⟩; replace H := HQ; clear HQ) | ((with_reducible refine (wtext3_any _ _ _ _ _ _ _ _ _ _ _ hN.s0 hN.s1 hN.s2 (by first | omega | (simp only [List.length_append]; omega)) H).mono ?_); rintro _ w1 ⟨A', c', rfl, HQ⟩; replace H := HQ; clear HQ) | ((with_reducible refine (wbal_any _ _ _ _ _ _ _ _ _ (by first | omega | (simp only [List.length_append]; omega)) H).mono ?_); rintro _ w1 ⟨A', c', rfl, HQ⟩; replace H := HQ; clear HQ) | ((with_reducible refine (went_any _ hN.se hN.ue _ _ _ _ _ _ _ (by first | omega | (simp only [List.length_append]; omega)) H).mono ?_); rintro _ w1 ⟨A', c', rfl, HQ⟩; replace H := HQ; clear HQ) | ((with_reducible refine Hp.cvS H ?_); refine ⟨rfl, _, _, _, rfl, l, (hR.yr.below H.below), hR.n2, ?_⟩; go_frame)); go_end0; exact ⟨A', c', rfl, by simpa only [HF.out, List.append_assoc] using H.del3⟩
set_option maxHeartbeats 4000000 in
theorem field_98 (m : Mg) (rs : List Rp) (l : List UInt8) (g : Nat) (A : Option Addr) (c : Nat) (l0 : List UInt8) (w0 w : World) (L : List Item) (hl : l0.length ≤ 10000) (hN : MgN m) (hR : MgR w0 m rs l) (H : Hp w0 w (wrI g A c l0 :: .bytes A c l0 :: L)) :
    Calls Tryd.prog 32 #[.pointer (some ⟨g, 0, none⟩), .agg (mgC m).toArray, .int .i32 98] w (RetWr w0 g (l0 ++ fieldL 98 m rs l) L) := by
  have HF : Hid (fieldL 98 m rs l = putL 6 m.br ++ putL 1 m.bp) := Lib.hid rfl
  have hY := True.intro
  go_enter Tryd.func32, Tryd.ntmps32; go_wp2_with (first | ((with_reducible refine Hp.box H ?_); (first | refine ⟨rfl, mgC m, rfl, ?_⟩); (clear H; intro g1 w1 H); (replace H := H.rot3); go_frame) | ((with_reducible refine Hp.allo H ?_); refine ⟨rfl, ?_⟩; refine ⟨_, z_look rfl, ?_⟩; (clear H; intro g1 w1 H); go_frame) | ((with_reducible refine Hp.ld H ?_); refine ⟨rfl, ?_⟩; refine ⟨c_look rfl, ?_⟩; refine ⟨_, _, rfl, ?_⟩; (first | refine ⟨_, _, _, .z, ?_⟩ | refine ⟨_, _, _, .s .z, ?_⟩ | refine ⟨_, _, _, .s (.s .z), ?_⟩ | refine ⟨_, _, _, .s (.s (.s .z)), ?_⟩); refine ⟨_, rfl, ?_⟩; go_frame) | ((with_reducible refine Hp.lda H ?_); refine ⟨rfl, by kernel_rfl, ?_⟩; refine ⟨_, s_look rfl, ?_⟩; refine ⟨_, rfl, ?_⟩; (first | refine ⟨_, _, _, .z, ?_⟩ | refine ⟨_, _, _, .s .z, ?_⟩ | refine ⟨_, _, _, .s (.s .z), ?_⟩ | refine ⟨_, _, _, .s (.s (.s .z)), ?_⟩); refine ⟨rfl, ?_⟩; go_frame) | ((with_reducible refine Hp.lds H ?_); refine ⟨rfl, by kernel_rfl, ?_⟩; refine ⟨_, s_look rfl, ?_⟩; refine ⟨_, _, rfl, ?_⟩; (first | refine ⟨_, _, _, .z, ?_⟩ | refine ⟨_, _, _, .s .z, ?_⟩ | refine ⟨_, _, _, .s (.s .z), ?_⟩ | refine ⟨_, _, _, .s (.s (.s .z)), ?_⟩); (first | refine ⟨baC m.br m.bp, rfl, rfl, ?_⟩ | refine ⟨enC m.e, rfl, rfl, ?_⟩); go_frame) | ((with_reducible refine Hp.sta H ?_); refine ⟨rfl, ?_⟩; refine ⟨_, s_look rfl, ?_⟩; refine ⟨_, rfl, _, rfl, rfl, ?_⟩; (first | refine ⟨_, _, _, .z, ?_⟩ | refine ⟨_, _, _, .s .z, ?_⟩ | refine ⟨_, _, _, .s (.s .z), ?_⟩ | refine ⟨_, _, _, .s (.s (.s .z)), ?_⟩); refine ⟨rfl, rfl, ?_⟩; (clear H; intro w1 H; simp only [List.set] at H); go_frame) | ((with_reducible refine Hp.str H ?_); refine ⟨rfl, ?_⟩; refine ⟨_, s_look rfl, ?_⟩; refine ⟨_, _, rfl, _, rfl, rfl, ?_⟩; (first | refine ⟨_, _, _, .z, ?_⟩ | refine ⟨_, _, _, .s .z, ?_⟩ | refine ⟨_, _, _, .s (.s .z), ?_⟩ | refine ⟨_, _, _, .s (.s (.s .z)), ?_⟩); refine ⟨rfl, _, rfl, _, rfl, Nat.le_of_ble_eq_true rfl, ?_⟩; (clear H; intro w1 H; simp only [List.set] at H); go_frame) | ((with_reducible refine Hp.bslI (parts := [_]) H ?_); refine ⟨rfl, rfl, rfl, [.int .i64 _], rfl, rfl, rfl, ?_⟩; (clear H; intro g2 w1 H); go_frame) | ((with_reducible refine Hp.bslS (parts := [_]) H ?_); refine ⟨rfl, rfl, rfl, [.string _], rfl, rfl, rfl, ?_⟩; (clear H; intro g2 w1 H); go_frame) | ((with_reducible refine Hp.bslS (parts := [_, _, _]) H ?_); refine ⟨rfl, rfl, rfl, [.string _, .string _, .string _], rfl, rfl, rfl, ?_⟩; (clear H; intro g2 w1 H); go_frame) | ((with_reducible refine (wnum_any _ _ _ _ _ _ _ _ _ _ (by first | omega | (simp only [List.length_append]; omega)) H).mono ?_); rintro _ w1 ⟨A', c', rfl, HQ⟩; replace H := HQ; clear HQ) | ((with_reducible refine (wtext1_any _ _ _ _ _ _ _ _ _ hN.sv (by first | omega | (simp only [List.length_append]; omega)) H).mono ?_); rintro _ w1 ⟨A', c', rfl, HQ⟩; replace H := HQ; clear HQ) | ((with_reducible refine (wtext1_any _ _ _ _ _ _ _ _ _ hY (by first | omega | (simp only [List.length_append]; omega)) H).mono ?_); rintro _ w1 ⟨A', c', rfl, HQ⟩; replace H := HQ; clear HQ) | ((with_reducible refine (wtext3_any _ _ _ _ _ _ _ _ _ _ _ hN.s0 hN.s1 hN.s2 (by first | omega | (simp only [List.length_append]; omega)) H).mono ?_); rintro _ w1 ⟨A', c', rfl, HQ⟩; replace H := HQ; clear HQ) | ((with_reducible refine (wbal_any _ _ _ _ _ _ _ _ _ (by first | omega | (simp only [List.length_append]; omega)) H).mono ?_); rintro _ w1 ⟨A', c', rfl, HQ⟩; replace H := HQ; clear HQ) | ((with_reducible refine (went_any _ hN.se hN.ue _ _ _ _ _ _ _ (by first | omega | (simp only [List.length_append]; omega)) H).mono ?_); rintro _ w1 ⟨A', c', rfl, HQ⟩; replace H := HQ; clear HQ) | ((with_reducible refine Hp.cvS H ?_); refine ⟨rfl, _, _, _, rfl, l, (hR.yr.below H.below), hR.n2, ?_⟩; go_frame)); go_end0; exact ⟨A', c', rfl, by simpa only [HF.out, List.append_assoc] using H.del3⟩
set_option maxHeartbeats 4000000 in
theorem field_105 (m : Mg) (rs : List Rp) (l : List UInt8) (g : Nat) (A : Option Addr) (c : Nat) (l0 : List UInt8) (w0 w : World) (L : List Item) (hl : l0.length ≤ 10000) (hN : MgN m) (hR : MgR w0 m rs l) (H : Hp w0 w (wrI g A c l0 :: .bytes A c l0 :: L)) :
    Calls Tryd.prog 32 #[.pointer (some ⟨g, 0, none⟩), .agg (mgC m).toArray, .int .i32 105] w (RetWr w0 g (l0 ++ fieldL 105 m rs l) L) := by
  have HF : Hid (fieldL 105 m rs l = putL 6 m.ix) := Lib.hid rfl
  have hY := True.intro
  go_enter Tryd.func32, Tryd.ntmps32; go_wp2_with (first | ((with_reducible refine Hp.box H ?_); (first | refine ⟨rfl, mgC m, rfl, ?_⟩); (clear H; intro g1 w1 H); (replace H := H.rot3); go_frame) | ((with_reducible refine Hp.allo H ?_); refine ⟨rfl, ?_⟩; refine ⟨_, z_look rfl, ?_⟩; (clear H; intro g1 w1 H); go_frame) | ((with_reducible refine Hp.ld H ?_); refine ⟨rfl, ?_⟩; refine ⟨c_look rfl, ?_⟩; refine ⟨_, _, rfl, ?_⟩; (first | refine ⟨_, _, _, .z, ?_⟩ | refine ⟨_, _, _, .s .z, ?_⟩ | refine ⟨_, _, _, .s (.s .z), ?_⟩ | refine ⟨_, _, _, .s (.s (.s .z)), ?_⟩); refine ⟨_, rfl, ?_⟩; go_frame) | ((with_reducible refine Hp.lda H ?_); refine ⟨rfl, by kernel_rfl, ?_⟩; refine ⟨_, s_look rfl, ?_⟩; refine ⟨_, rfl, ?_⟩; (first | refine ⟨_, _, _, .z, ?_⟩ | refine ⟨_, _, _, .s .z, ?_⟩ | refine ⟨_, _, _, .s (.s .z), ?_⟩ | refine ⟨_, _, _, .s (.s (.s .z)), ?_⟩); refine ⟨rfl, ?_⟩; go_frame) | ((with_reducible refine Hp.lds H ?_); refine ⟨rfl, by kernel_rfl, ?_⟩; refine ⟨_, s_look rfl, ?_⟩; refine ⟨_, _, rfl, ?_⟩; (first | refine ⟨_, _, _, .z, ?_⟩ | refine ⟨_, _, _, .s .z, ?_⟩ | refine ⟨_, _, _, .s (.s .z), ?_⟩ | refine ⟨_, _, _, .s (.s (.s .z)), ?_⟩); (first | refine ⟨baC m.br m.bp, rfl, rfl, ?_⟩ | refine ⟨enC m.e, rfl, rfl, ?_⟩); go_frame) | ((with_reducible refine Hp.sta H ?_); refine ⟨rfl, ?_⟩; refine ⟨_, s_look rfl, ?_⟩; refine ⟨_, rfl, _, rfl, rfl, ?_⟩; (first | refine ⟨_, _, _, .z, ?_⟩ | refine ⟨_, _, _, .s .z, ?_⟩ | refine ⟨_, _, _, .s (.s .z), ?_⟩ | refine ⟨_, _, _, .s (.s (.s .z)), ?_⟩); refine ⟨rfl, rfl, ?_⟩; (clear H; intro w1 H; simp only [List.set] at H); go_frame) | ((with_reducible refine Hp.str H ?_); refine ⟨rfl, ?_⟩; refine ⟨_, s_look rfl, ?_⟩; refine ⟨_, _, rfl, _, rfl, rfl, ?_⟩; (first | refine ⟨_, _, _, .z, ?_⟩ | refine ⟨_, _, _, .s .z, ?_⟩ | refine ⟨_, _, _, .s (.s .z), ?_⟩ | refine ⟨_, _, _, .s (.s (.s .z)), ?_⟩); refine ⟨rfl, _, rfl, _, rfl, Nat.le_of_ble_eq_true rfl, ?_⟩; (clear H; intro w1 H; simp only [List.set] at H); go_frame) | ((with_reducible refine Hp.bslI (parts := [_]) H ?_); refine ⟨rfl, rfl, rfl, [.int .i64 _], rfl, rfl, rfl, ?_⟩; (clear H; intro g2 w1 H); go_frame) | ((with_reducible refine Hp.bslS (parts := [_]) H ?_); refine ⟨rfl, rfl, rfl, [.string _], rfl, rfl, rfl, ?_⟩; (clear H; intro g2 w1 H); go_frame) | ((with_reducible refine Hp.bslS (parts := [_, _, _]) H ?_); refine ⟨rfl, rfl, rfl, [.string _, .string _, .string _], rfl, rfl, rfl, ?_⟩; (clear H; intro g2 w1 H); go_frame) | ((with_reducible refine (wnum_any _ _ _ _ _ _ _ _ _ _ (by first | omega | (simp only [List.length_append]; omega)) H).mono ?_); rintro _ w1 ⟨A', c', rfl, HQ⟩; replace H := HQ; clear HQ) | ((with_reducible refine (wtext1_any _ _ _ _ _ _ _ _ _ hN.sv (by first | omega | (simp only [List.length_append]; omega)) H).mono ?_); rintro _ w1 ⟨A', c', rfl, HQ⟩; replace H := HQ; clear HQ) | ((with_reducible refine (wtext1_any _ _ _ _ _ _ _ _ _ hY (by first | omega | (simp only [List.length_append]; omega)) H).mono ?_); rintro _ w1 ⟨A', c', rfl, HQ⟩; replace H := HQ; clear HQ) | ((with_reducible refine (wtext3_any _ _ _ _ _ _ _ _ _ _ _ hN.s0 hN.s1 hN.s2 (by first | omega | (simp only [List.length_append]; omega)) H).mono ?_); rintro _ w1 ⟨A', c', rfl, HQ⟩; replace H := HQ; clear HQ) | ((with_reducible refine (wbal_any _ _ _ _ _ _ _ _ _ (by first | omega | (simp only [List.length_append]; omega)) H).mono ?_); rintro _ w1 ⟨A', c', rfl, HQ⟩; replace H := HQ; clear HQ) | ((with_reducible refine (went_any _ hN.se hN.ue _ _ _ _ _ _ _ (by first | omega | (simp only [List.length_append]; omega)) H).mono ?_); rintro _ w1 ⟨A', c', rfl, HQ⟩; replace H := HQ; clear HQ) | ((with_reducible refine Hp.cvS H ?_); refine ⟨rfl, _, _, _, rfl, l, (hR.yr.below H.below), hR.n2, ?_⟩; go_frame)); go_end0; exact ⟨A', c', rfl, by simpa only [HF.out, List.append_assoc] using H.del3⟩
set_option maxHeartbeats 4000000 in
theorem field_122 (m : Mg) (rs : List Rp) (l : List UInt8) (g : Nat) (A : Option Addr) (c : Nat) (l0 : List UInt8) (w0 w : World) (L : List Item) (hl : l0.length ≤ 10000) (hN : MgN m) (hR : MgR w0 m rs l) (H : Hp w0 w (wrI g A c l0 :: .bytes A c l0 :: L)) :
    Calls Tryd.prog 32 #[.pointer (some ⟨g, 0, none⟩), .agg (mgC m).toArray, .int .i32 122] w (RetWr w0 g (l0 ++ fieldL 122 m rs l) L) := by
  have HF : Hid (fieldL 122 m rs l = putL 6 m.ix) := Lib.hid rfl
  have hY := True.intro
  go_enter Tryd.func32, Tryd.ntmps32; go_wp2_with (first | ((with_reducible refine Hp.box H ?_); (first | refine ⟨rfl, mgC m, rfl, ?_⟩); (clear H; intro g1 w1 H); (replace H := H.rot3); go_frame) | ((with_reducible refine Hp.allo H ?_); refine ⟨rfl, ?_⟩; refine ⟨_, z_look rfl, ?_⟩; (clear H; intro g1 w1 H); go_frame) | ((with_reducible refine Hp.ld H ?_); refine ⟨rfl, ?_⟩; refine ⟨c_look rfl, ?_⟩; refine ⟨_, _, rfl, ?_⟩; (first | refine ⟨_, _, _, .z, ?_⟩ | refine ⟨_, _, _, .s .z, ?_⟩ | refine ⟨_, _, _, .s (.s .z), ?_⟩ | refine ⟨_, _, _, .s (.s (.s .z)), ?_⟩); refine ⟨_, rfl, ?_⟩; go_frame) | ((with_reducible refine Hp.lda H ?_); refine ⟨rfl, by kernel_rfl, ?_⟩; refine ⟨_, s_look rfl, ?_⟩; refine ⟨_, rfl, ?_⟩; (first | refine ⟨_, _, _, .z, ?_⟩ | refine ⟨_, _, _, .s .z, ?_⟩ | refine ⟨_, _, _, .s (.s .z), ?_⟩ | refine ⟨_, _, _, .s (.s (.s .z)), ?_⟩); refine ⟨rfl, ?_⟩; go_frame) | ((with_reducible refine Hp.lds H ?_); refine ⟨rfl, by kernel_rfl, ?_⟩; refine ⟨_, s_look rfl, ?_⟩; refine ⟨_, _, rfl, ?_⟩; (first | refine ⟨_, _, _, .z, ?_⟩ | refine ⟨_, _, _, .s .z, ?_⟩ | refine ⟨_, _, _, .s (.s .z), ?_⟩ | refine ⟨_, _, _, .s (.s (.s .z)), ?_⟩); (first | refine ⟨baC m.br m.bp, rfl, rfl, ?_⟩ | refine ⟨enC m.e, rfl, rfl, ?_⟩); go_frame) | ((with_reducible refine Hp.sta H ?_); refine ⟨rfl, ?_⟩; refine ⟨_, s_look rfl, ?_⟩; refine ⟨_, rfl, _, rfl, rfl, ?_⟩; (first | refine ⟨_, _, _, .z, ?_⟩ | refine ⟨_, _, _, .s .z, ?_⟩ | refine ⟨_, _, _, .s (.s .z), ?_⟩ | refine ⟨_, _, _, .s (.s (.s .z)), ?_⟩); refine ⟨rfl, rfl, ?_⟩; (clear H; intro w1 H; simp only [List.set] at H); go_frame) | ((with_reducible refine Hp.str H ?_); refine ⟨rfl, ?_⟩; refine ⟨_, s_look rfl, ?_⟩; refine ⟨_, _, rfl, _, rfl, rfl, ?_⟩; (first | refine ⟨_, _, _, .z, ?_⟩ | refine ⟨_, _, _, .s .z, ?_⟩ | refine ⟨_, _, _, .s (.s .z), ?_⟩ | refine ⟨_, _, _, .s (.s (.s .z)), ?_⟩); refine ⟨rfl, _, rfl, _, rfl, Nat.le_of_ble_eq_true rfl, ?_⟩; (clear H; intro w1 H; simp only [List.set] at H); go_frame) | ((with_reducible refine Hp.bslI (parts := [_]) H ?_); refine ⟨rfl, rfl, rfl, [.int .i64 _], rfl, rfl, rfl, ?_⟩; (clear H; intro g2 w1 H); go_frame) | ((with_reducible refine Hp.bslS (parts := [_]) H ?_); refine ⟨rfl, rfl, rfl, [.string _], rfl, rfl, rfl, ?_⟩; (clear H; intro g2 w1 H); go_frame) | ((with_reducible refine Hp.bslS (parts := [_, _, _]) H ?_); refine ⟨rfl, rfl, rfl, [.string _, .string _, .string _], rfl, rfl, rfl, ?_⟩; (clear H; intro g2 w1 H); go_frame) | ((with_reducible refine (wnum_any _ _ _ _ _ _ _ _ _ _ (by first | omega | (simp only [List.length_append]; omega)) H).mono ?_); rintro _ w1 ⟨A', c', rfl, HQ⟩; replace H := HQ; clear HQ) | ((with_reducible refine (wtext1_any _ _ _ _ _ _ _ _ _ hN.sv (by first | omega | (simp only [List.length_append]; omega)) H).mono ?_); rintro _ w1 ⟨A', c', rfl, HQ⟩; replace H := HQ; clear HQ) | ((with_reducible refine (wtext1_any _ _ _ _ _ _ _ _ _ hY (by first | omega | (simp only [List.length_append]; omega)) H).mono ?_); rintro _ w1 ⟨A', c', rfl, HQ⟩; replace H := HQ; clear HQ) | ((with_reducible refine (wtext3_any _ _ _ _ _ _ _ _ _ _ _ hN.s0 hN.s1 hN.s2 (by first | omega | (simp only [List.length_append]; omega)) H).mono ?_); rintro _ w1 ⟨A', c', rfl, HQ⟩; replace H := HQ; clear HQ) | ((with_reducible refine (wbal_any _ _ _ _ _ _ _ _ _ (by first | omega | (simp only [List.length_append]; omega)) H).mono ?_); rintro _ w1 ⟨A', c', rfl, HQ⟩; replace H := HQ; clear HQ) | ((with_reducible refine (went_any _ hN.se hN.ue _ _ _ _ _ _ _ (by first | omega | (simp only [List.length_append]; omega)) H).mono ?_); rintro _ w1 ⟨A', c', rfl, HQ⟩; replace H := HQ; clear HQ) | ((with_reducible refine Hp.cvS H ?_); refine ⟨rfl, _, _, _, rfl, l, (hR.yr.below H.below), hR.n2, ?_⟩; go_frame)); go_end0; exact ⟨A', c', rfl, by simpa only [HF.out, List.append_assoc] using H.del3⟩
set_option maxHeartbeats 4000000 in
theorem field_99 (m : Mg) (rs : List Rp) (l : List UInt8) (g : Nat) (A : Option Addr) (c : Nat) (l0 : List UInt8) (w0 w : World) (L : List Item) (hl : l0.length ≤ 10000) (hN : MgN m) (hR : MgR w0 m rs l) (H : Hp w0 w (wrI g A c l0 :: .bytes A c l0 :: L)) :
    Calls Tryd.prog 32 #[.pointer (some ⟨g, 0, none⟩), .agg (mgC m).toArray, .int .i32 99] w (RetWr w0 g (l0 ++ fieldL 99 m rs l) L) := by
  have HF : Hid (fieldL 99 m rs l = putL 6 m.cm) := Lib.hid rfl
  have hY := True.intro
  go_enter Tryd.func32, Tryd.ntmps32; go_wp2_with (first | ((with_reducible refine Hp.box H ?_); (first | refine ⟨rfl, mgC m, rfl, ?_⟩); (clear H; intro g1 w1 H); (replace H := H.rot3); go_frame) | ((with_reducible refine Hp.allo H ?_); refine ⟨rfl, ?_⟩; refine ⟨_, z_look rfl, ?_⟩; (clear H; intro g1 w1 H); go_frame) | ((with_reducible refine Hp.ld H ?_); refine ⟨rfl, ?_⟩; refine ⟨c_look rfl, ?_⟩; refine ⟨_, _, rfl, ?_⟩; (first | refine ⟨_, _, _, .z, ?_⟩ | refine ⟨_, _, _, .s .z, ?_⟩ | refine ⟨_, _, _, .s (.s .z), ?_⟩ | refine ⟨_, _, _, .s (.s (.s .z)), ?_⟩); refine ⟨_, rfl, ?_⟩; go_frame) | ((with_reducible refine Hp.lda H ?_); refine ⟨rfl, by kernel_rfl, ?_⟩; refine ⟨_, s_look rfl, ?_⟩; refine ⟨_, rfl, ?_⟩; (first | refine ⟨_, _, _, .z, ?_⟩ | refine ⟨_, _, _, .s .z, ?_⟩ | refine ⟨_, _, _, .s (.s .z), ?_⟩ | refine ⟨_, _, _, .s (.s (.s .z)), ?_⟩); refine ⟨rfl, ?_⟩; go_frame) | ((with_reducible refine Hp.lds H ?_); refine ⟨rfl, by kernel_rfl, ?_⟩; refine ⟨_, s_look rfl, ?_⟩; refine ⟨_, _, rfl, ?_⟩; (first | refine ⟨_, _, _, .z, ?_⟩ | refine ⟨_, _, _, .s .z, ?_⟩ | refine ⟨_, _, _, .s (.s .z), ?_⟩ | refine ⟨_, _, _, .s (.s (.s .z)), ?_⟩); (first | refine ⟨baC m.br m.bp, rfl, rfl, ?_⟩ | refine ⟨enC m.e, rfl, rfl, ?_⟩); go_frame) | ((with_reducible refine Hp.sta H ?_); refine ⟨rfl, ?_⟩; refine ⟨_, s_look rfl, ?_⟩; refine ⟨_, rfl, _, rfl, rfl, ?_⟩; (first | refine ⟨_, _, _, .z, ?_⟩ | refine ⟨_, _, _, .s .z, ?_⟩ | refine ⟨_, _, _, .s (.s .z), ?_⟩ | refine ⟨_, _, _, .s (.s (.s .z)), ?_⟩); refine ⟨rfl, rfl, ?_⟩; (clear H; intro w1 H; simp only [List.set] at H); go_frame) | ((with_reducible refine Hp.str H ?_); refine ⟨rfl, ?_⟩; refine ⟨_, s_look rfl, ?_⟩; refine ⟨_, _, rfl, _, rfl, rfl, ?_⟩; (first | refine ⟨_, _, _, .z, ?_⟩ | refine ⟨_, _, _, .s .z, ?_⟩ | refine ⟨_, _, _, .s (.s .z), ?_⟩ | refine ⟨_, _, _, .s (.s (.s .z)), ?_⟩); refine ⟨rfl, _, rfl, _, rfl, Nat.le_of_ble_eq_true rfl, ?_⟩; (clear H; intro w1 H; simp only [List.set] at H); go_frame) | ((with_reducible refine Hp.bslI (parts := [_]) H ?_); refine ⟨rfl, rfl, rfl, [.int .i64 _], rfl, rfl, rfl, ?_⟩; (clear H; intro g2 w1 H); go_frame) | ((with_reducible refine Hp.bslS (parts := [_]) H ?_); refine ⟨rfl, rfl, rfl, [.string _], rfl, rfl, rfl, ?_⟩; (clear H; intro g2 w1 H); go_frame) | ((with_reducible refine Hp.bslS (parts := [_, _, _]) H ?_); refine ⟨rfl, rfl, rfl, [.string _, .string _, .string _], rfl, rfl, rfl, ?_⟩; (clear H; intro g2 w1 H); go_frame) | ((with_reducible refine (wnum_any _ _ _ _ _ _ _ _ _ _ (by first | omega | (simp only [List.length_append]; omega)) H).mono ?_); rintro _ w1 ⟨A', c', rfl, HQ⟩; replace H := HQ; clear HQ) | ((with_reducible refine (wtext1_any _ _ _ _ _ _ _ _ _ hN.sv (by first | omega | (simp only [List.length_append]; omega)) H).mono ?_); rintro _ w1 ⟨A', c', rfl, HQ⟩; replace H := HQ; clear HQ) | ((with_reducible refine (wtext1_any _ _ _ _ _ _ _ _ _ hY (by first | omega | (simp only [List.length_append]; omega)) H).mono ?_); rintro _ w1 ⟨A', c', rfl, HQ⟩; replace H := HQ; clear HQ) | ((with_reducible refine (wtext3_any _ _ _ _ _ _ _ _ _ _ _ hN.s0 hN.s1 hN.s2 (by first | omega | (simp only [List.length_append]; omega)) H).mono ?_); rintro _ w1 ⟨A', c', rfl, HQ⟩; replace H := HQ; clear HQ) | ((with_reducible refine (wbal_any _ _ _ _ _ _ _ _ _ (by first | omega | (simp only [List.length_append]; omega)) H).mono ?_); rintro _ w1 ⟨A', c', rfl, HQ⟩; replace H := HQ; clear HQ) | ((with_reducible refine (went_any _ hN.se hN.ue _ _ _ _ _ _ _ (by first | omega | (simp only [List.length_append]; omega)) H).mono ?_); rintro _ w1 ⟨A', c', rfl, HQ⟩; replace H := HQ; clear HQ) | ((with_reducible refine Hp.cvS H ?_); refine ⟨rfl, _, _, _, rfl, l, (hR.yr.below H.below), hR.n2, ?_⟩; go_frame)); go_end0; exact ⟨A', c', rfl, by simpa only [HF.out, List.append_assoc] using H.del3⟩
set_option maxHeartbeats 4000000 in
theorem field_110 (m : Mg) (rs : List Rp) (l : List UInt8) (g : Nat) (A : Option Addr) (c : Nat) (l0 : List UInt8) (w0 w : World) (L : List Item) (hl : l0.length ≤ 10000) (hN : MgN m) (hR : MgR w0 m rs l) (H : Hp w0 w (wrI g A c l0 :: .bytes A c l0 :: L)) :
    Calls Tryd.prog 32 #[.pointer (some ⟨g, 0, none⟩), .agg (mgC m).toArray, .int .i32 110] w (RetWr w0 g (l0 ++ fieldL 110 m rs l) L) := by
  have HF : Hid (fieldL 110 m rs l = putL 6 m.nc) := Lib.hid rfl
  have hY := True.intro
  go_enter Tryd.func32, Tryd.ntmps32; go_wp2_with (first | ((with_reducible refine Hp.box H ?_); (first | refine ⟨rfl, mgC m, rfl, ?_⟩); (clear H; intro g1 w1 H); (replace H := H.rot3); go_frame) | ((with_reducible refine Hp.allo H ?_); refine ⟨rfl, ?_⟩; refine ⟨_, z_look rfl, ?_⟩; (clear H; intro g1 w1 H); go_frame) | ((with_reducible refine Hp.ld H ?_); refine ⟨rfl, ?_⟩; refine ⟨c_look rfl, ?_⟩; refine ⟨_, _, rfl, ?_⟩; (first | refine ⟨_, _, _, .z, ?_⟩ | refine ⟨_, _, _, .s .z, ?_⟩ | refine ⟨_, _, _, .s (.s .z), ?_⟩ | refine ⟨_, _, _, .s (.s (.s .z)), ?_⟩); refine ⟨_, rfl, ?_⟩; go_frame) | ((with_reducible refine Hp.lda H ?_); refine ⟨rfl, by kernel_rfl, ?_⟩; refine ⟨_, s_look rfl, ?_⟩; refine ⟨_, rfl, ?_⟩; (first | refine ⟨_, _, _, .z, ?_⟩ | refine ⟨_, _, _, .s .z, ?_⟩ | refine ⟨_, _, _, .s (.s .z), ?_⟩ | refine ⟨_, _, _, .s (.s (.s .z)), ?_⟩); refine ⟨rfl, ?_⟩; go_frame) | ((with_reducible refine Hp.lds H ?_); refine ⟨rfl, by kernel_rfl, ?_⟩; refine ⟨_, s_look rfl, ?_⟩; refine ⟨_, _, rfl, ?_⟩; (first | refine ⟨_, _, _, .z, ?_⟩ | refine ⟨_, _, _, .s .z, ?_⟩ | refine ⟨_, _, _, .s (.s .z), ?_⟩ | refine ⟨_, _, _, .s (.s (.s .z)), ?_⟩); (first | refine ⟨baC m.br m.bp, rfl, rfl, ?_⟩ | refine ⟨enC m.e, rfl, rfl, ?_⟩); go_frame) | ((with_reducible refine Hp.sta H ?_); refine ⟨rfl, ?_⟩; refine ⟨_, s_look rfl, ?_⟩; refine ⟨_, rfl, _, rfl, rfl, ?_⟩; (first | refine ⟨_, _, _, .z, ?_⟩ | refine ⟨_, _, _, .s .z, ?_⟩ | refine ⟨_, _, _, .s (.s .z), ?_⟩ | refine ⟨_, _, _, .s (.s (.s .z)), ?_⟩); refine ⟨rfl, rfl, ?_⟩; (clear H; intro w1 H; simp only [List.set] at H); go_frame) | ((with_reducible refine Hp.str H ?_); refine ⟨rfl, ?_⟩; refine ⟨_, s_look rfl, ?_⟩; refine ⟨_, _, rfl, _, rfl, rfl, ?_⟩; (first | refine ⟨_, _, _, .z, ?_⟩ | refine ⟨_, _, _, .s .z, ?_⟩ | refine ⟨_, _, _, .s (.s .z), ?_⟩ | refine ⟨_, _, _, .s (.s (.s .z)), ?_⟩); refine ⟨rfl, _, rfl, _, rfl, Nat.le_of_ble_eq_true rfl, ?_⟩; (clear H; intro w1 H; simp only [List.set] at H); go_frame) | ((with_reducible refine Hp.bslI (parts := [_]) H ?_); refine ⟨rfl, rfl, rfl, [.int .i64 _], rfl, rfl, rfl, ?_⟩; (clear H; intro g2 w1 H); go_frame) | ((with_reducible refine Hp.bslS (parts := [_]) H ?_); refine ⟨rfl, rfl, rfl, [.string _], rfl, rfl, rfl, ?_⟩; (clear H; intro g2 w1 H); go_frame) | ((with_reducible refine Hp.bslS (parts := [_, _, _]) H ?_); refine ⟨rfl, rfl, rfl, [.string _, .string _, .string _], rfl, rfl, rfl, ?_⟩; (clear H; intro g2 w1 H); go_frame) | ((with_reducible refine (wnum_any _ _ _ _ _ _ _ _ _ _ (by first | omega | (simp only [List.length_append]; omega)) H).mono ?_); rintro _ w1 ⟨A', c', rfl, HQ⟩; replace H := HQ; clear HQ) | ((with_reducible refine (wtext1_any _ _ _ _ _ _ _ _ _ hN.sv (by first | omega | (simp only [List.length_append]; omega)) H).mono ?_); rintro _ w1 ⟨A', c', rfl, HQ⟩; replace H := HQ; clear HQ) | ((with_reducible refine (wtext1_any _ _ _ _ _ _ _ _ _ hY (by first | omega | (simp only [List.length_append]; omega)) H).mono ?_); rintro _ w1 ⟨A', c', rfl, HQ⟩; replace H := HQ; clear HQ) | ((with_reducible refine (wtext3_any _ _ _ _ _ _ _ _ _ _ _ hN.s0 hN.s1 hN.s2 (by first | omega | (simp only [List.length_append]; omega)) H).mono ?_); rintro _ w1 ⟨A', c', rfl, HQ⟩; replace H := HQ; clear HQ) | ((with_reducible refine (wbal_any _ _ _ _ _ _ _ _ _ (by first | omega | (simp only [List.length_append]; omega)) H).mono ?_); rintro _ w1 ⟨A', c', rfl, HQ⟩; replace H := HQ; clear HQ) | ((with_reducible refine (went_any _ hN.se hN.ue _ _ _ _ _ _ _ (by first | omega | (simp only [List.length_append]; omega)) H).mono ?_); rintro _ w1 ⟨A', c', rfl, HQ⟩; replace H := HQ; clear HQ) | ((with_reducible refine Hp.cvS H ?_); refine ⟨rfl, _, _, _, rfl, l, (hR.yr.below H.below), hR.n2, ?_⟩; go_frame)); go_end0; exact ⟨A', c', rfl, by simpa only [HF.out, List.append_assoc] using H.del3⟩
set_option maxHeartbeats 4000000 in
theorem field_101 (m : Mg) (rs : List Rp) (l : List UInt8) (g : Nat) (A : Option Addr) (c : Nat) (l0 : List UInt8) (w0 w : World) (L : List Item) (hl : l0.length ≤ 10000) (hN : MgN m) (hR : MgR w0 m rs l) (H : Hp w0 w (wrI g A c l0 :: .bytes A c l0 :: L)) :
    Calls Tryd.prog 32 #[.pointer (some ⟨g, 0, none⟩), .agg (mgC m).toArray, .int .i32 101] w (RetWr w0 g (l0 ++ fieldL 101 m rs l) L) := by
  have HF : Hid (fieldL 101 m rs l = bytesL m.e) := Lib.hid rfl
  have hY := True.intro
  go_enter Tryd.func32, Tryd.ntmps32; go_wp2_with (first | ((with_reducible refine Hp.box H ?_); (first | refine ⟨rfl, mgC m, rfl, ?_⟩); (clear H; intro g1 w1 H); (replace H := H.rot3); go_frame) | ((with_reducible refine Hp.allo H ?_); refine ⟨rfl, ?_⟩; refine ⟨_, z_look rfl, ?_⟩; (clear H; intro g1 w1 H); go_frame) | ((with_reducible refine Hp.ld H ?_); refine ⟨rfl, ?_⟩; refine ⟨c_look rfl, ?_⟩; refine ⟨_, _, rfl, ?_⟩; (first | refine ⟨_, _, _, .z, ?_⟩ | refine ⟨_, _, _, .s .z, ?_⟩ | refine ⟨_, _, _, .s (.s .z), ?_⟩ | refine ⟨_, _, _, .s (.s (.s .z)), ?_⟩); refine ⟨_, rfl, ?_⟩; go_frame) | ((with_reducible refine Hp.lda H ?_); refine ⟨rfl, by kernel_rfl, ?_⟩; refine ⟨_, s_look rfl, ?_⟩; refine ⟨_, rfl, ?_⟩; (first | refine ⟨_, _, _, .z, ?_⟩ | refine ⟨_, _, _, .s .z, ?_⟩ | refine ⟨_, _, _, .s (.s .z), ?_⟩ | refine ⟨_, _, _, .s (.s (.s .z)), ?_⟩); refine ⟨rfl, ?_⟩; go_frame) | ((with_reducible refine Hp.lds H ?_); refine ⟨rfl, by kernel_rfl, ?_⟩; refine ⟨_, s_look rfl, ?_⟩; refine ⟨_, _, rfl, ?_⟩; (first | refine ⟨_, _, _, .z, ?_⟩ | refine ⟨_, _, _, .s .z, ?_⟩ | refine ⟨_, _, _, .s (.s .z), ?_⟩ | refine ⟨_, _, _, .s (.s (.s .z)), ?_⟩); (first | refine ⟨baC m.br m.bp, rfl, rfl, ?_⟩ | refine ⟨enC m.e, rfl, rfl, ?_⟩); go_frame) | ((with_reducible refine Hp.sta H ?_); refine ⟨rfl, ?_⟩; refine ⟨_, s_look rfl, ?_⟩; refine ⟨_, rfl, _, rfl, rfl, ?_⟩; (first | refine ⟨_, _, _, .z, ?_⟩ | refine ⟨_, _, _, .s .z, ?_⟩ | refine ⟨_, _, _, .s (.s .z), ?_⟩ | refine ⟨_, _, _, .s (.s (.s .z)), ?_⟩); refine ⟨rfl, rfl, ?_⟩; (clear H; intro w1 H; simp only [List.set] at H); go_frame) | ((with_reducible refine Hp.str H ?_); refine ⟨rfl, ?_⟩; refine ⟨_, s_look rfl, ?_⟩; refine ⟨_, _, rfl, _, rfl, rfl, ?_⟩; (first | refine ⟨_, _, _, .z, ?_⟩ | refine ⟨_, _, _, .s .z, ?_⟩ | refine ⟨_, _, _, .s (.s .z), ?_⟩ | refine ⟨_, _, _, .s (.s (.s .z)), ?_⟩); refine ⟨rfl, _, rfl, _, rfl, Nat.le_of_ble_eq_true rfl, ?_⟩; (clear H; intro w1 H; simp only [List.set] at H); go_frame) | ((with_reducible refine Hp.bslI (parts := [_]) H ?_); refine ⟨rfl, rfl, rfl, [.int .i64 _], rfl, rfl, rfl, ?_⟩; (clear H; intro g2 w1 H); go_frame) | ((with_reducible refine Hp.bslS (parts := [_]) H ?_); refine ⟨rfl, rfl, rfl, [.string _], rfl, rfl, rfl, ?_⟩; (clear H; intro g2 w1 H); go_frame) | ((with_reducible refine Hp.bslS (parts := [_, _, _]) H ?_); refine ⟨rfl, rfl, rfl, [.string _, .string _, .string _], rfl, rfl, rfl, ?_⟩; (clear H; intro g2 w1 H); go_frame) | ((with_reducible refine (wnum_any _ _ _ _ _ _ _ _ _ _ (by first | omega | (simp only [List.length_append]; omega)) H).mono ?_); rintro _ w1 ⟨A', c', rfl, HQ⟩; replace H := HQ; clear HQ) | ((with_reducible refine (wtext1_any _ _ _ _ _ _ _ _ _ hN.sv (by first | omega | (simp only [List.length_append]; omega)) H).mono ?_); rintro _ w1 ⟨A', c', rfl, HQ⟩; replace H := HQ; clear HQ) | ((with_reducible refine (wtext1_any _ _ _ _ _ _ _ _ _ hY (by first | omega | (simp only [List.length_append]; omega)) H).mono ?_); rintro _ w1 ⟨A', c', rfl, HQ⟩; replace H := HQ; clear HQ) | ((with_reducible refine (wtext3_any _ _ _ _ _ _ _ _ _ _ _ hN.s0 hN.s1 hN.s2 (by first | omega | (simp only [List.length_append]; omega)) H).mono ?_); rintro _ w1 ⟨A', c', rfl, HQ⟩; replace H := HQ; clear HQ) | ((with_reducible refine (wbal_any _ _ _ _ _ _ _ _ _ (by first | omega | (simp only [List.length_append]; omega)) H).mono ?_); rintro _ w1 ⟨A', c', rfl, HQ⟩; replace H := HQ; clear HQ) | ((with_reducible refine (went_any _ hN.se hN.ue _ _ _ _ _ _ _ (by first | omega | (simp only [List.length_append]; omega)) H).mono ?_); rintro _ w1 ⟨A', c', rfl, HQ⟩; replace H := HQ; clear HQ) | ((with_reducible refine Hp.cvS H ?_); refine ⟨rfl, _, _, _, rfl, l, (hR.yr.below H.below), hR.n2, ?_⟩; go_frame)); go_end0; exact ⟨A', c', rfl, by simpa only [HF.out, List.append_assoc] using H.del3⟩
set_option maxHeartbeats 4000000 in
theorem field_107 (m : Mg) (rs : List Rp) (l : List UInt8) (g : Nat) (A : Option Addr) (c : Nat) (l0 : List UInt8) (w0 w : World) (L : List Item) (hl : l0.length ≤ 10000) (hN : MgN m) (hR : MgR w0 m rs l) (H : Hp w0 w (wrI g A c l0 :: .bytes A c l0 :: L)) :
    Calls Tryd.prog 32 #[.pointer (some ⟨g, 0, none⟩), .agg (mgC m).toArray, .int .i32 107] w (RetWr w0 g (l0 ++ fieldL 107 m rs l) L) := by
  have HF : Hid (fieldL 107 m rs l = putL 1 m.ck) := Lib.hid rfl
  have hY := True.intro
  go_enter Tryd.func32, Tryd.ntmps32; go_wp2_with (first | ((with_reducible refine Hp.box H ?_); (first | refine ⟨rfl, mgC m, rfl, ?_⟩); (clear H; intro g1 w1 H); (replace H := H.rot3); go_frame) | ((with_reducible refine Hp.allo H ?_); refine ⟨rfl, ?_⟩; refine ⟨_, z_look rfl, ?_⟩; (clear H; intro g1 w1 H); go_frame) | ((with_reducible refine Hp.ld H ?_); refine ⟨rfl, ?_⟩; refine ⟨c_look rfl, ?_⟩; refine ⟨_, _, rfl, ?_⟩; (first | refine ⟨_, _, _, .z, ?_⟩ | refine ⟨_, _, _, .s .z, ?_⟩ | refine ⟨_, _, _, .s (.s .z), ?_⟩ | refine ⟨_, _, _, .s (.s (.s .z)), ?_⟩); refine ⟨_, rfl, ?_⟩; go_frame) | ((with_reducible refine Hp.lda H ?_); refine ⟨rfl, by kernel_rfl, ?_⟩; refine ⟨_, s_look rfl, ?_⟩; refine ⟨_, rfl, ?_⟩; (first | refine ⟨_, _, _, .z, ?_⟩ | refine ⟨_, _, _, .s .z, ?_⟩ | refine ⟨_, _, _, .s (.s .z), ?_⟩ | refine ⟨_, _, _, .s (.s (.s .z)), ?_⟩); refine ⟨rfl, ?_⟩; go_frame) | ((with_reducible refine Hp.lds H ?_); refine ⟨rfl, by kernel_rfl, ?_⟩; refine ⟨_, s_look rfl, ?_⟩; refine ⟨_, _, rfl, ?_⟩; (first | refine ⟨_, _, _, .z, ?_⟩ | refine ⟨_, _, _, .s .z, ?_⟩ | refine ⟨_, _, _, .s (.s .z), ?_⟩ | refine ⟨_, _, _, .s (.s (.s .z)), ?_⟩); (first | refine ⟨baC m.br m.bp, rfl, rfl, ?_⟩ | refine ⟨enC m.e, rfl, rfl, ?_⟩); go_frame) | ((with_reducible refine Hp.sta H ?_); refine ⟨rfl, ?_⟩; refine ⟨_, s_look rfl, ?_⟩; refine ⟨_, rfl, _, rfl, rfl, ?_⟩; (first | refine ⟨_, _, _, .z, ?_⟩ | refine ⟨_, _, _, .s .z, ?_⟩ | refine ⟨_, _, _, .s (.s .z), ?_⟩ | refine ⟨_, _, _, .s (.s (.s .z)), ?_⟩); refine ⟨rfl, rfl, ?_⟩; (clear H; intro w1 H; simp only [List.set] at H); go_frame) | ((with_reducible refine Hp.str H ?_); refine ⟨rfl, ?_⟩; refine ⟨_, s_look rfl, ?_⟩; refine ⟨_, _, rfl, _, rfl, rfl, ?_⟩; (first | refine ⟨_, _, _, .z, ?_⟩ | refine ⟨_, _, _, .s .z, ?_⟩ | refine ⟨_, _, _, .s (.s .z), ?_⟩ | refine ⟨_, _, _, .s (.s (.s .z)), ?_⟩); refine ⟨rfl, _, rfl, _, rfl, Nat.le_of_ble_eq_true rfl, ?_⟩; (clear H; intro w1 H; simp only [List.set] at H); go_frame) | ((with_reducible refine Hp.bslI (parts := [_]) H ?_); refine ⟨rfl, rfl, rfl, [.int .i64 _], rfl, rfl, rfl, ?_⟩; (clear H; intro g2 w1 H); go_frame) | ((with_reducible refine Hp.bslS (parts := [_]) H ?_); refine ⟨rfl, rfl, rfl, [.string _], rfl, rfl, rfl, ?_⟩; (clear H; intro g2 w1 H); go_frame) | ((with_reducible refine Hp.bslS (parts := [_, _, _]) H ?_); refine ⟨rfl, rfl, rfl, [.string _, .string _, .string _], rfl, rfl, rfl, ?_⟩; (clear H; intro g2 w1 H); go_frame) | ((with_reducible refine (wnum_any _ _ _ _ _ _ _ _ _ _ (by first | omega | (simp only [List.length_append]; omega)) H).mono ?_); rintro _ w1 ⟨A', c', rfl, HQ⟩; replace H := HQ; clear HQ) | ((with_reducible refine (wtext1_any _ _ _ _ _ _ _ _ _ hN.sv (by first | omega | (simp only [List.length_append]; omega)) H).mono ?_); rintro _ w1 ⟨A', c', rfl, HQ⟩; replace H := HQ; clear HQ) | ((with_reducible refine (wtext1_any _ _ _ _ _ _ _ _ _ hY (by first | omega | (simp only [List.length_append]; omega)) H).mono ?_); rintro _ w1 ⟨A', c', rfl, HQ⟩; replace H := HQ; clear HQ) | ((with_reducible refine (wtext3_any _ _ _ _ _ _ _ _ _ _ _ hN.s0 hN.s1 hN.s2 (by first | omega | (simp only [List.length_append]; omega)) H).mono ?_); rintro _ w1 ⟨A', c', rfl, HQ⟩; replace H := HQ; clear HQ) | ((with_reducible refine (wbal_any _ _ _ _ _ _ _ _ _ (by first | omega | (simp only [List.length_append]; omega)) H).mono ?_); rintro _ w1 ⟨A', c', rfl, HQ⟩; replace H := HQ; clear HQ) | ((with_reducible refine (went_any _ hN.se hN.ue _ _ _ _ _ _ _ (by first | omega | (simp only [List.length_append]; omega)) H).mono ?_); rintro _ w1 ⟨A', c', rfl, HQ⟩; replace H := HQ; clear HQ) | ((with_reducible refine Hp.cvS H ?_); refine ⟨rfl, _, _, _, rfl, l, (hR.yr.below H.below), hR.n2, ?_⟩; go_frame)); go_end0; exact ⟨A', c', rfl, by simpa only [HF.out, List.append_assoc] using H.del3⟩
set_option maxHeartbeats 4000000 in
theorem field_109 (m : Mg) (rs : List Rp) (l : List UInt8) (g : Nat) (A : Option Addr) (c : Nat) (l0 : List UInt8) (w0 w : World) (L : List Item) (hl : l0.length ≤ 10000) (hN : MgN m) (hR : MgR w0 m rs l) (H : Hp w0 w (wrI g A c l0 :: .bytes A c l0 :: L)) :
    Calls Tryd.prog 32 #[.pointer (some ⟨g, 0, none⟩), .agg (mgC m).toArray, .int .i32 109] w (RetWr w0 g (l0 ++ fieldL 109 m rs l) L) := by
  have HF : Hid (fieldL 109 m rs l = putL 1 m.ct) := Lib.hid rfl
  have hY := True.intro
  go_enter Tryd.func32, Tryd.ntmps32; go_wp2_with (first | ((with_reducible refine Hp.box H ?_); (first | refine ⟨rfl, mgC m, rfl, ?_⟩); (clear H; intro g1 w1 H); (replace H := H.rot3); go_frame) | ((with_reducible refine Hp.allo H ?_); refine ⟨rfl, ?_⟩; refine ⟨_, z_look rfl, ?_⟩; (clear H; intro g1 w1 H); go_frame) | ((with_reducible refine Hp.ld H ?_); refine ⟨rfl, ?_⟩; refine ⟨c_look rfl, ?_⟩; refine ⟨_, _, rfl, ?_⟩; (first | refine ⟨_, _, _, .z, ?_⟩ | refine ⟨_, _, _, .s .z, ?_⟩ | refine ⟨_, _, _, .s (.s .z), ?_⟩ | refine ⟨_, _, _, .s (.s (.s .z)), ?_⟩); refine ⟨_, rfl, ?_⟩; go_frame) | ((with_reducible refine Hp.lda H ?_); refine ⟨rfl, by kernel_rfl, ?_⟩; refine ⟨_, s_look rfl, ?_⟩; refine ⟨_, rfl, ?_⟩; (first | refine ⟨_, _, _, .z, ?_⟩ | refine ⟨_, _, _, .s .z, ?_⟩ | refine ⟨_, _, _, .s (.s .z), ?_⟩ | refine ⟨_, _, _, .s (.s (.s .z)), ?_⟩); refine ⟨rfl, ?_⟩; go_frame) | ((with_reducible refine Hp.lds H ?_); refine ⟨rfl, by kernel_rfl, ?_⟩; refine ⟨_, s_look rfl, ?_⟩; refine ⟨_, _, rfl, ?_⟩; (first | refine ⟨_, _, _, .z, ?_⟩ | refine ⟨_, _, _, .s .z, ?_⟩ | refine ⟨_, _, _, .s (.s .z), ?_⟩ | refine ⟨_, _, _, .s (.s (.s .z)), ?_⟩); (first | refine ⟨baC m.br m.bp, rfl, rfl, ?_⟩ | refine ⟨enC m.e, rfl, rfl, ?_⟩); go_frame) | ((with_reducible refine Hp.sta H ?_); refine ⟨rfl, ?_⟩; refine ⟨_, s_look rfl, ?_⟩; refine ⟨_, rfl, _, rfl, rfl, ?_⟩; (first | refine ⟨_, _, _, .z, ?_⟩ | refine ⟨_, _, _, .s .z, ?_⟩ | refine ⟨_, _, _, .s (.s .z), ?_⟩ | refine ⟨_, _, _, .s (.s (.s .z)), ?_⟩); refine ⟨rfl, rfl, ?_⟩; (clear H; intro w1 H; simp only [List.set] at H); go_frame) | ((with_reducible refine Hp.str H ?_); refine ⟨rfl, ?_⟩; refine ⟨_, s_look rfl, ?_⟩; refine ⟨_, _, rfl, _, rfl, rfl, ?_⟩; (first | refine ⟨_, _, _, .z, ?_⟩ | refine ⟨_, _, _, .s .z, ?_⟩ | refine ⟨_, _, _, .s (.s .z), ?_⟩ | refine ⟨_, _, _, .s (.s (.s .z)), ?_⟩); refine ⟨rfl, _, rfl, _, rfl, Nat.le_of_ble_eq_true rfl, ?_⟩; (clear H; intro w1 H; simp only [List.set] at H); go_frame) | ((with_reducible refine Hp.bslI (parts := [_]) H ?_); refine ⟨rfl, rfl, rfl, [.int .i64 _], rfl, rfl, rfl, ?_⟩; (clear H; intro g2 w1 H); go_frame) | ((with_reducible refine Hp.bslS (parts := [_]) H ?_); refine ⟨rfl, rfl, rfl, [.string _], rfl, rfl, rfl, ?_⟩; (clear H; intro g2 w1 H); go_frame) | ((with_reducible refine Hp.bslS (parts := [_, _, _]) H ?_); refine ⟨rfl, rfl, rfl, [.string _, .string _, .string _], rfl, rfl, rfl, ?_⟩; (clear H; intro g2 w1 H); go_frame) | ((with_reducible refine (wnum_any _ _ _ _ _ _ _ _ _ _ (by first | omega | (simp only [List.length_append]; omega)) H).mono ?_); rintro _ w1 ⟨A', c', rfl, HQ⟩; replace H := HQ; clear HQ) | ((with_reducible refine (wtext1_any _ _ _ _ _ _ _ _ _ hN.sv (by first | omega | (simp only [List.length_append]; omega)) H).mono ?_); rintro _ w1 ⟨A', c', rfl, HQ⟩; replace H := HQ; clear HQ) | ((with_reducible refine (wtext1_any _ _ _ _ _ _ _ _ _ hY (by first | omega | (simp only [List.length_append]; omega)) H).mono ?_); rintro _ w1 ⟨A', c', rfl, HQ⟩; replace H := HQ; clear HQ) | ((with_reducible refine (wtext3_any _ _ _ _ _ _ _ _ _ _ _ hN.s0 hN.s1 hN.s2 (by first | omega | (simp only [List.length_append]; omega)) H).mono ?_); rintro _ w1 ⟨A', c', rfl, HQ⟩; replace H := HQ; clear HQ) | ((with_reducible refine (wbal_any _ _ _ _ _ _ _ _ _ (by first | omega | (simp only [List.length_append]; omega)) H).mono ?_); rintro _ w1 ⟨A', c', rfl, HQ⟩; replace H := HQ; clear HQ) | ((with_reducible refine (went_any _ hN.se hN.ue _ _ _ _ _ _ _ (by first | omega | (simp only [List.length_append]; omega)) H).mono ?_); rintro _ w1 ⟨A', c', rfl, HQ⟩; replace H := HQ; clear HQ) | ((with_reducible refine Hp.cvS H ?_); refine ⟨rfl, _, _, _, rfl, l, (hR.yr.below H.below), hR.n2, ?_⟩; go_frame)); go_end0; exact ⟨A', c', rfl, by simpa only [HF.out, List.append_assoc] using H.del3⟩
set_option maxHeartbeats 4000000 in
theorem field_121 (m : Mg) (rs : List Rp) (l : List UInt8) (g : Nat) (A : Option Addr) (c : Nat) (l0 : List UInt8) (w0 w : World) (L : List Item) (hl : l0.length ≤ 10000) (hN : MgN m) (hR : MgR w0 m rs l) (H : Hp w0 w (wrI g A c l0 :: .bytes A c l0 :: L)) :
    Calls Tryd.prog 32 #[.pointer (some ⟨g, 0, none⟩), .agg (mgC m).toArray, .int .i32 121] w (RetWr w0 g (l0 ++ fieldL 121 m rs l) L) := by
  have HF : Hid (fieldL 121 m rs l = textL l) := Lib.hid rfl
  have hY : (⟨l.toArray⟩ : ByteArray).size ≤ maxLen := by have h1 := hR.yl; have h2 := hR.ym; have h3 := hR.n2; show l.toArray.size ≤ maxLen; rw [List.size_toArray]; omega
  go_enter Tryd.func32, Tryd.ntmps32; go_wp2_with (first | ((with_reducible refine Hp.box H ?_); (first | refine ⟨rfl, mgC m, rfl, ?_⟩); (clear H; intro g1 w1 H); (replace H := H.rot3); go_frame) | ((with_reducible refine Hp.allo H ?_); refine ⟨rfl, ?_⟩; refine ⟨_, z_look rfl, ?_⟩; (clear H; intro g1 w1 H); go_frame) | ((with_reducible refine Hp.ld H ?_); refine ⟨rfl, ?_⟩; refine ⟨c_look rfl, ?_⟩; refine ⟨_, _, rfl, ?_⟩; (first | refine ⟨_, _, _, .z, ?_⟩ | refine ⟨_, _, _, .s .z, ?_⟩ | refine ⟨_, _, _, .s (.s .z), ?_⟩ | refine ⟨_, _, _, .s (.s (.s .z)), ?_⟩); refine ⟨_, rfl, ?_⟩; go_frame) | ((with_reducible refine Hp.lda H ?_); refine ⟨rfl, by kernel_rfl, ?_⟩; refine ⟨_, s_look rfl, ?_⟩; refine ⟨_, rfl, ?_⟩; (first | refine ⟨_, _, _, .z, ?_⟩ | refine ⟨_, _, _, .s .z, ?_⟩ | refine ⟨_, _, _, .s (.s .z), ?_⟩ | refine ⟨_, _, _, .s (.s (.s .z)), ?_⟩); refine ⟨rfl, ?_⟩; go_frame) | ((with_reducible refine Hp.lds H ?_); refine ⟨rfl, by kernel_rfl, ?_⟩; refine ⟨_, s_look rfl, ?_⟩; refine ⟨_, _, rfl, ?_⟩; (first | refine ⟨_, _, _, .z, ?_⟩ | refine ⟨_, _, _, .s .z, ?_⟩ | refine ⟨_, _, _, .s (.s .z), ?_⟩ | refine ⟨_, _, _, .s (.s (.s .z)), ?_⟩); (first | refine ⟨baC m.br m.bp, rfl, rfl, ?_⟩ | refine ⟨enC m.e, rfl, rfl, ?_⟩); go_frame) | ((with_reducible refine Hp.sta H ?_); refine ⟨rfl, ?_⟩; refine ⟨_, s_look rfl, ?_⟩; refine ⟨_, rfl, _, rfl, rfl, ?_⟩; (first | refine ⟨_, _, _, .z, ?_⟩ | refine ⟨_, _, _, .s .z, ?_⟩ | refine ⟨_, _, _, .s (.s .z), ?_⟩ | refine ⟨_, _, _, .s (.s (.s .z)), ?_⟩); refine ⟨rfl, rfl, ?_⟩; (clear H; intro w1 H; simp only [List.set] at H); go_frame) | ((with_reducible refine Hp.str H ?_); refine ⟨rfl, ?_⟩; refine ⟨_, s_look rfl, ?_⟩; refine ⟨_, _, rfl, _, rfl, rfl, ?_⟩; (first | refine ⟨_, _, _, .z, ?_⟩ | refine ⟨_, _, _, .s .z, ?_⟩ | refine ⟨_, _, _, .s (.s .z), ?_⟩ | refine ⟨_, _, _, .s (.s (.s .z)), ?_⟩); refine ⟨rfl, _, rfl, _, rfl, Nat.le_of_ble_eq_true rfl, ?_⟩; (clear H; intro w1 H; simp only [List.set] at H); go_frame) | ((with_reducible refine Hp.bslI (parts := [_]) H ?_); refine ⟨rfl, rfl, rfl, [.int .i64 _], rfl, rfl, rfl, ?_⟩; (clear H; intro g2 w1 H); go_frame) | ((with_reducible refine Hp.bslS (parts := [_]) H ?_); refine ⟨rfl, rfl, rfl, [.string _], rfl, rfl, rfl, ?_⟩; (clear H; intro g2 w1 H); go_frame) | ((with_reducible refine Hp.bslS (parts := [_, _, _]) H ?_); refine ⟨rfl, rfl, rfl, [.string _, .string _, .string _], rfl, rfl, rfl, ?_⟩; (clear H; intro g2 w1 H); go_frame) | ((with_reducible refine (wnum_any _ _ _ _ _ _ _ _ _ _ (by first | omega | (simp only [List.length_append]; omega)) H).mono ?_); rintro _ w1 ⟨A', c', rfl, HQ⟩; replace H := HQ; clear HQ) | ((with_reducible refine (wtext1_any _ _ _ _ _ _ _ _ _ hN.sv (by first | omega | (simp only [List.length_append]; omega)) H).mono ?_); rintro _ w1 ⟨A', c', rfl, HQ⟩; replace H := HQ; clear HQ) | ((with_reducible refine (wtext1_any _ _ _ _ _ _ _ _ _ hY (by first | omega | (simp only [List.length_append]; omega)) H).mono ?_); rintro _ w1 ⟨A', c', rfl, HQ⟩; replace H := HQ; clear HQ) | ((with_reducible refine (wtext3_any _ _ _ _ _ _ _ _ _ _ _ hN.s0 hN.s1 hN.s2 (by first | omega | (simp only [List.length_append]; omega)) H).mono ?_); rintro _ w1 ⟨A', c', rfl, HQ⟩; replace H := HQ; clear HQ) | ((with_reducible refine (wbal_any _ _ _ _ _ _ _ _ _ (by first | omega | (simp only [List.length_append]; omega)) H).mono ?_); rintro _ w1 ⟨A', c', rfl, HQ⟩; replace H := HQ; clear HQ) | ((with_reducible refine (went_any _ hN.se hN.ue _ _ _ _ _ _ _ (by first | omega | (simp only [List.length_append]; omega)) H).mono ?_); rintro _ w1 ⟨A', c', rfl, HQ⟩; replace H := HQ; clear HQ) | ((with_reducible refine Hp.cvS H ?_); refine ⟨rfl, _, _, _, rfl, l, (hR.yr.below H.below), hR.n2, ?_⟩; go_frame)); go_end0; exact ⟨A', c', rfl, by simpa only [HF.out, List.append_assoc] using H.del3⟩
set_option maxHeartbeats 4000000 in
theorem field_114 (m : Mg) (rs : List Rp) (l : List UInt8) (g : Nat) (A : Option Addr) (c : Nat) (l0 : List UInt8) (w0 w : World) (L : List Item) (hl : l0.length ≤ 10000) (hN : MgN m) (hR : MgR w0 m rs l) (H : Hp w0 w (wrI g A c l0 :: .bytes A c l0 :: L)) :
    Calls Tryd.prog 32 #[.pointer (some ⟨g, 0, none⟩), .agg (mgC m).toArray, .int .i32 114] w (RetWr w0 g (l0 ++ fieldL 114 m rs l) L) := by
  have m0 := putL_length6 2 m.re
  have m1 := putL_length6 1 1
  have m2 := putL_length6 1 0
  have hY := True.intro
  have HT : Hid (∀ b : Bool, m.rf = b → fieldL 114 m rs l = putL 2 m.re ++ (putL 1 (if b then 1 else 0) ++ textL m.rv.data.toList)) := Lib.hid (fun b hb => by show _ ++ (putL 1 (if m.rf then 1 else 0) ++ _) = _; rw [hb])
  go_enter Tryd.func32, Tryd.ntmps32
  go_wp2_with (first | ((with_reducible refine Hp.box H ?_); (first | refine ⟨rfl, mgC m, rfl, ?_⟩); (clear H; intro g1 w1 H); (replace H := H.rot3); go_frame) | ((with_reducible refine Hp.allo H ?_); refine ⟨rfl, ?_⟩; refine ⟨_, z_look rfl, ?_⟩; (clear H; intro g1 w1 H); go_frame) | ((with_reducible refine Hp.ld H ?_); refine ⟨rfl, ?_⟩; refine ⟨c_look rfl, ?_⟩; refine ⟨_, _, rfl, ?_⟩; (first | refine ⟨_, _, _, .z, ?_⟩ | refine ⟨_, _, _, .s .z, ?_⟩ | refine ⟨_, _, _, .s (.s .z), ?_⟩ | refine ⟨_, _, _, .s (.s (.s .z)), ?_⟩); refine ⟨_, rfl, ?_⟩; go_frame) | ((with_reducible refine Hp.lda H ?_); refine ⟨rfl, by kernel_rfl, ?_⟩; refine ⟨_, s_look rfl, ?_⟩; refine ⟨_, rfl, ?_⟩; (first | refine ⟨_, _, _, .z, ?_⟩ | refine ⟨_, _, _, .s .z, ?_⟩ | refine ⟨_, _, _, .s (.s .z), ?_⟩ | refine ⟨_, _, _, .s (.s (.s .z)), ?_⟩); refine ⟨rfl, ?_⟩; go_frame) | ((with_reducible refine Hp.lds H ?_); refine ⟨rfl, by kernel_rfl, ?_⟩; refine ⟨_, s_look rfl, ?_⟩; refine ⟨_, _, rfl, ?_⟩; (first | refine ⟨_, _, _, .z, ?_⟩ | refine ⟨_, _, _, .s .z, ?_⟩ | refine ⟨_, _, _, .s (.s .z), ?_⟩ | refine ⟨_, _, _, .s (.s (.s .z)), ?_⟩); (first | refine ⟨baC m.br m.bp, rfl, rfl, ?_⟩ | refine ⟨enC m.e, rfl, rfl, ?_⟩); go_frame) | ((with_reducible refine Hp.sta H ?_); refine ⟨rfl, ?_⟩; refine ⟨_, s_look rfl, ?_⟩; refine ⟨_, rfl, _, rfl, rfl, ?_⟩; (first | refine ⟨_, _, _, .z, ?_⟩ | refine ⟨_, _, _, .s .z, ?_⟩ | refine ⟨_, _, _, .s (.s .z), ?_⟩ | refine ⟨_, _, _, .s (.s (.s .z)), ?_⟩); refine ⟨rfl, rfl, ?_⟩; (clear H; intro w1 H; simp only [List.set] at H); go_frame) | ((with_reducible refine Hp.str H ?_); refine ⟨rfl, ?_⟩; refine ⟨_, s_look rfl, ?_⟩; refine ⟨_, _, rfl, _, rfl, rfl, ?_⟩; (first | refine ⟨_, _, _, .z, ?_⟩ | refine ⟨_, _, _, .s .z, ?_⟩ | refine ⟨_, _, _, .s (.s .z), ?_⟩ | refine ⟨_, _, _, .s (.s (.s .z)), ?_⟩); refine ⟨rfl, _, rfl, _, rfl, Nat.le_of_ble_eq_true rfl, ?_⟩; (clear H; intro w1 H; simp only [List.set] at H); go_frame) | ((with_reducible refine Hp.bslI (parts := [_]) H ?_); refine ⟨rfl, rfl, rfl, [.int .i64 _], rfl, rfl, rfl, ?_⟩; (clear H; intro g2 w1 H); go_frame) | ((with_reducible refine Hp.bslS (parts := [_]) H ?_); refine ⟨rfl, rfl, rfl, [.string _], rfl, rfl, rfl, ?_⟩; (clear H; intro g2 w1 H); go_frame) | ((with_reducible refine Hp.bslS (parts := [_, _, _]) H ?_); refine ⟨rfl, rfl, rfl, [.string _, .string _, .string _], rfl, rfl, rfl, ?_⟩; (clear H; intro g2 w1 H); go_frame) | ((with_reducible refine (wnum_any _ _ _ _ _ _ _ _ _ _ (by first | omega | (simp only [List.length_append]; omega)) H).mono ?_); rintro _ w1 ⟨A', c', rfl, HQ⟩; replace H := HQ; clear HQ) | ((with_reducible refine (wtext1_any _ _ _ _ _ _ _ _ _ hN.sv (by first | omega | (simp only [List.length_append]; omega)) H).mono ?_); rintro _ w1 ⟨A', c', rfl, HQ⟩; replace H := HQ; clear HQ) | ((with_reducible refine (wtext1_any _ _ _ _ _ _ _ _ _ hY (by first | omega | (simp only [List.length_append]; omega)) H).mono ?_); rintro _ w1 ⟨A', c', rfl, HQ⟩; replace H := HQ; clear HQ) | ((with_reducible refine (wtext3_any _ _ _ _ _ _ _ _ _ _ _ hN.s0 hN.s1 hN.s2 (by first | omega | (simp only [List.length_append]; omega)) H).mono ?_); rintro _ w1 ⟨A', c', rfl, HQ⟩; replace H := HQ; clear HQ) | ((with_reducible refine (wbal_any _ _ _ _ _ _ _ _ _ (by first | omega | (simp only [List.length_append]; omega)) H).mono ?_); rintro _ w1 ⟨A', c', rfl, HQ⟩; replace H := HQ; clear HQ) | ((with_reducible refine (went_any _ hN.se hN.ue _ _ _ _ _ _ _ (by first | omega | (simp only [List.length_append]; omega)) H).mono ?_); rintro _ w1 ⟨A', c', rfl, HQ⟩; replace H := HQ; clear HQ) | ((with_reducible refine Hp.cvS H ?_); refine ⟨rfl, _, _, _, rfl, l, (hR.yr.below H.below), hR.n2, ?_⟩; go_frame))
  all_goals
    go_end0
    refine ⟨A', c', rfl, ?_⟩
    rw [HT.out _ ‹m.rf = _›]
    simpa [List.append_assoc] using H.del3
end Go.Proofs.YtajgikjmoeemnaaDoor

/-
  THE WALKS OF the reference's number, text, who, ballot, operation.
-/
namespace Go.Proofs.YtajgikjmoeemnaaDoor
set_option maxRecDepth 100000
open Go.RowKit
set_option linter.unusedVariables false
set_option linter.unusedSimpArgs false
section
variable {a : Act} {w0 w : World} {Q : Exit → Act → World → Prop} {L L0 : List Item} {ops : List Oper} {fuel : Nat} {listed : Array Bool} {md : Region.Mode} {oi : Oper} {K : Act → World → Prop} {x s : Operand}
/-- a byte as a slice -/
theorem hw_bslB1 {u : UInt8} (ho : oi.op = .buildSlice 32 1 #[(0, x)]) (hx : a.eval x = .int .u8 (u.toNat : Int)) (H : Hp w0 w L) (h : ∀ g w', Hp w0 w' (.bytes (some ⟨g, 0, none⟩) 1 [u] :: L) → K (a.put oi.dst (.slice (some ⟨g, 0, none⟩) 1 1)) w') : oi.wp Tryd.prog a w K Q := by
  cases hi : Tryd.prog.info? 5 with
  | none => have := u8_i; rw [hi] at this; cases this
  | some i =>
    have hu := u8_i
    rw [hi] at hu
    simp only [Option.map_some, Option.some.injEq, Prod.mk.injEq] at hu
    have hr := run_bsl (P := Tryd.prog) w u8_slice hi hu.1 hu.2 1 (by omega) (by omega) #[(0, .int .u8 (u.toNat : Int))] (bvs [u]) (by
      have hf := fill_nums (bvs [u]) 0 ((Array.range (1 * 1)).map (fun k => (Value.int .u8 0).cells[k % (Value.int .u8 0).cells.size]!)).toList (List.all_eq_true.2 (bvs_one [u])) (by simp [bvs_length])
      rw [List.take_zero, List.nil_append] at hf
      rw [show (#[(0, Value.int .u8 (u.toNat : Int))] : Array (Nat × Value)).toList = nums 0 (bvs [u]) from rfl, ← hf])
    have hown : Own (w.alloc (.cells (bvs [u]).toArray 5)) w0.heap.size (some ⟨w.heap.size, 0, none⟩) 1 [u] := own_lit w _ [u] _ rfl H.size (by unfold maxLen; simp) 1 rfl
    have H1 : Hp w0 (w.alloc (.cells (bvs [u]).toArray 5)) (.bytes (some ⟨w.heap.size, 0, none⟩) 1 [u] :: L) :=
      H.new (H.below.alloc H.size _) (by simp) (fun k hk => Below.heap_alloc w _ k hk) hown (fun k hk => by simp [Item.foot] at hk; subst hk; simp)
    have he : (execOp a.eval oi).run Tryd.prog w = .ok (.value (.slice (some ⟨w.heap.size, 0, none⟩) 1 1)) (w.alloc (.cells (bvs [u]).toArray 5)) := by
      simp [execOp, ho, hx, hr]
    exact hw_turn he (h _ _ H1)
theorem hw_appB {A A2 : Option Addr} {c c2 i : Nat} {l news : List UInt8} {n m : Nat} (ho : oi.op = .call { callee := .builtin .append, args := #[s, x], argTypes := #[32, 32] }) (hs : a.eval s = .slice A n c) (hx : a.eval x = .slice A2 m c2) (hn : n = l.length) (hm : m = news.length) (H : Hp w0 w L) (hL : L[i]? = some (.bytes A c l)) (hr : Rd w A2 news) (hlen : l.length + news.length ≤ 140737488355328)
    (h : ∀ A' c' w', Hp w0 w' (L.set i (.bytes A' c' (l ++ news))) → K (a.put oi.dst (.slice A' (l ++ news).length c')) w') : oi.wp Tryd.prog a w K Q := by
  subst hn hm
  obtain ⟨A', c', w', hrun, hH⟩ := H.appBytes oi.type i A c l hL A2 c2 news hr hlen
  exact hw_turn (ex_append ho hs hx hrun) (h _ _ _ hH)
/-- three that may come up; four -/
theorem hw_three (i j k : Nat) {P : Program} (hr : Region.ready md ops.toArray listed = [i, j, k])
    (h : ∃ oi, ops[i]? = some oi ∧ Region.wanted oi (yielded ops.toArray a.tmps) = true ∧ ∀ K : Act → World → Prop, (∀ a w, HpW w0 L0 w → wpAnyH P md ops.toArray Q (HpW w0 L0) fuel (listed.setIfInBounds i true) a w → K a w) → oi.wp P a w K Q)
    (h' : ∃ oi, ops[j]? = some oi ∧ Region.wanted oi (yielded ops.toArray a.tmps) = true ∧ ∀ K : Act → World → Prop, (∀ a w, HpW w0 L0 w → wpAnyH P md ops.toArray Q (HpW w0 L0) fuel (listed.setIfInBounds j true) a w → K a w) → oi.wp P a w K Q)
    (h'' : ∃ oi, ops[k]? = some oi ∧ Region.wanted oi (yielded ops.toArray a.tmps) = true ∧ ∀ K : Act → World → Prop, (∀ a w, HpW w0 L0 w → wpAnyH P md ops.toArray Q (HpW w0 L0) fuel (listed.setIfInBounds k true) a w → K a w) → oi.wp P a w K Q) : wpAnyH P md ops.toArray Q (HpW w0 L0) (fuel + 1) listed a w := by
  obtain ⟨oi, h1, h2, h3⟩ := h
  obtain ⟨oj, k1, k2, k3⟩ := h'
  obtain ⟨ok, m1, m2, m3⟩ := h''
  refine wpAnyH_ready (rs := [i, j, k]) hr (by simp) (AllReadyH.cons (by simpa using h1) (fun K hK => ?_) (AllReadyH.cons (by simpa using k1) (fun K hK => ?_) (AllReadyH.cons (by simpa using m1) (fun K hK => ?_) AllReadyH.nil)))
  · rw [if_pos h2]; exact h3 K fun a w hS hW => hK.out a w hS (fun _ => hW)
  · rw [if_pos k2]; exact k3 K fun a w hS hW => hK.out a w hS (fun _ => hW)
  · rw [if_pos m2]; exact m3 K fun a w hS hW => hK.out a w hS (fun _ => hW)
theorem hw_four (i j k l : Nat) {P : Program} (hr : Region.ready md ops.toArray listed = [i, j, k, l])
    (h : ∃ oi, ops[i]? = some oi ∧ Region.wanted oi (yielded ops.toArray a.tmps) = true ∧ ∀ K : Act → World → Prop, (∀ a w, HpW w0 L0 w → wpAnyH P md ops.toArray Q (HpW w0 L0) fuel (listed.setIfInBounds i true) a w → K a w) → oi.wp P a w K Q)
    (h' : ∃ oi, ops[j]? = some oi ∧ Region.wanted oi (yielded ops.toArray a.tmps) = true ∧ ∀ K : Act → World → Prop, (∀ a w, HpW w0 L0 w → wpAnyH P md ops.toArray Q (HpW w0 L0) fuel (listed.setIfInBounds j true) a w → K a w) → oi.wp P a w K Q)
    (h'' : ∃ oi, ops[k]? = some oi ∧ Region.wanted oi (yielded ops.toArray a.tmps) = true ∧ ∀ K : Act → World → Prop, (∀ a w, HpW w0 L0 w → wpAnyH P md ops.toArray Q (HpW w0 L0) fuel (listed.setIfInBounds k true) a w → K a w) → oi.wp P a w K Q)
    (h3' : ∃ oi, ops[l]? = some oi ∧ Region.wanted oi (yielded ops.toArray a.tmps) = true ∧ ∀ K : Act → World → Prop, (∀ a w, HpW w0 L0 w → wpAnyH P md ops.toArray Q (HpW w0 L0) fuel (listed.setIfInBounds l true) a w → K a w) → oi.wp P a w K Q) : wpAnyH P md ops.toArray Q (HpW w0 L0) (fuel + 1) listed a w := by
  obtain ⟨oi, h1, h2, h3⟩ := h
  obtain ⟨oj, k1, k2, k3⟩ := h'
  obtain ⟨ok, m1, m2, m3⟩ := h''
  obtain ⟨ol, n1, n2, n3⟩ := h3'
  refine wpAnyH_ready (rs := [i, j, k, l]) hr (by simp) (AllReadyH.cons (by simpa using h1) (fun K hK => ?_) (AllReadyH.cons (by simpa using k1) (fun K hK => ?_) (AllReadyH.cons (by simpa using m1) (fun K hK => ?_) (AllReadyH.cons (by simpa using n1) (fun K hK => ?_) AllReadyH.nil))))
  · rw [if_pos h2]; exact h3 K fun a w hS hW => hK.out a w hS (fun _ => hW)
  · rw [if_pos k2]; exact k3 K fun a w hS hW => hK.out a w hS (fun _ => hW)
  · rw [if_pos m2]; exact m3 K fun a w hS hW => hK.out a w hS (fun _ => hW)
  · rw [if_pos n2]; exact n3 K fun a w hS hW => hK.out a w hS (fun _ => hW)
end
/-! number -/
def NRel (w : World) (W N : Nat) (va vo vi : Value) (wr : World) : Prop :=
  ∃ (k q : Nat) (A : Option Addr) (c : Nat) (L : List UInt8), k ≤ W ∧ q ≤ N ∧ q = N / 256 ^ k ∧ L = leB k N ∧ va = .int .i64 q ∧ vo = .slice A L.length c ∧ vi = .int .i64 k ∧ Hp w wr [.bytes A c L]
set_option maxHeartbeats 2000000 in
theorem rnum_any (W N : Nat) (w : World) (hW : W ≤ 6) (hN : N < 9223372036854775808) : Calls Tryd.prog 24 #[.int .i64 N, .int .i64 W] w (RetB w (leB W N)) := by
  have H := (Hp.nil w).nilOwn
  have HBV := True.intro
  have HLk := True.intro
  go_enter Tryd.func24, Tryd.ntmps24
  go_wp2_with (first | ((with_reducible refine Hp.bslB (parts := [_]) H ?_); refine ⟨rfl, rfl, rfl, _, rfl, [UInt8.ofNat q], HBV.out, rfl, ?_⟩; (clear H; intro g1 w1 H); go_frame) | (at_builtin; refine H.wlAppendBytes rfl _ _ rfl 1 _ _ _ _ (by rfl) rfl rfl _ _ _ _ (by rfl) rfl (H.o 0 rfl).rd (by rw [HLk.out]; simp; omega) ?_; (clear H; intro A1 c1 w1 H); simp only [List.set_cons_succ, List.set_cons_zero] at H))
  have hat : NRel w W N (.int .i64 N) (.slice none 0 0) (.int .i64 (0 : Nat)) w := ⟨0, N, none, 0, [], Nat.zero_le _, Nat.le_refl _, by simp, rfl, rfl, rfl, rfl, H⟩
  clear H HBV HLk
  go_loopw [0, 5, 6] (fun a v i wr => NRel w W N a v i wr) (fun _ _ i _ => W - (intOf i).toNat)
  case atStart => exact hat
  case round =>
    clear hat
    obtain ⟨k, q, A, c, L, hk, hq, hqe, hL, rfl, rfl, rfl, H⟩ := hrel
    have HQE := Lib.hid hqe
    have HL := Lib.hid hL
    have HLk : Hid (L.length = k) := Lib.hid (by rw [hL, leB_length])
    clear hqe hL
    by_cases hlt : k < W
    · have hK := hlt
      have t1 : ((q : Int).tmod 256) = ((q % 256 : Nat) : Int) := by rw [Int.tmod_eq_emod_of_nonneg (by omega)]; omega
      have t2 : ((q : Int).tdiv 256) = ((q / 256 : Nat) : Int) := by rw [Int.tdiv_eq_ediv_of_nonneg (by omega)]; omega
      have t3 : IntKind.u8.wrap ((q % 256 : Nat) : Int) = ((q % 256 : Nat) : Int) := by unfold IntKind.wrap; simp [IntKind.signed, IntKind.bits]
      have t4 : IntKind.i64.wrap ((q % 256 : Nat) : Int) = ((q % 256 : Nat) : Int) := IntWalk.i64_in _ (by omega)
      have t5 : IntKind.i64.wrap ((q / 256 : Nat) : Int) = ((q / 256 : Nat) : Int) := IntWalk.i64_in _ (by omega)
      have HBV : Hid ([Value.int .u8 ((q % 256 : Nat) : Int)] = bvs [UInt8.ofNat q]) := Lib.hid (by show _ = [Value.int .u8 ((UInt8.ofNat q).toNat : Int)]; rw [ofNat_toNat])
      go_wp2_with (first | ((with_reducible refine Hp.bslB (parts := [_]) H ?_); refine ⟨rfl, rfl, rfl, _, rfl, [UInt8.ofNat q], HBV.out, rfl, ?_⟩; (clear H; intro g1 w1 H); go_frame) | (at_builtin; refine H.wlAppendBytes rfl _ _ rfl 1 _ _ _ _ (by rfl) rfl rfl _ _ _ _ (by rfl) rfl (H.o 0 rfl).rd (by rw [HLk.out]; simp; omega) ?_; (clear H; intro A1 c1 w1 H); simp only [List.set_cons_succ, List.set_cons_zero] at H))
      go_roundw
      case rel =>
        refine ⟨k + 1, q / 256, A1, c1, L ++ [UInt8.ofNat q], hK, ?_, ?_, ?_, rfl, ?_, rfl, H.tail⟩
        · exact Nat.le_trans (Nat.div_le_self _ _) hq
        · rw [HQE.out, Nat.div_div_eq_div_mul, Nat.pow_succ]
        · rw [leB_succ, ← HL.out, ← HQE.out]
        · rw [List.length_append]; rfl
      case measure => show W - ((k : Int) + 1).toNat < W - ((k : Int)).toNat; omega
    · obtain rfl : k = W := by omega
      have HBV := True.intro
      have hL := HL.out
      subst hL
      go_wp2_with (first | ((with_reducible refine Hp.bslB (parts := [_]) H ?_); refine ⟨rfl, rfl, rfl, _, rfl, [UInt8.ofNat q], HBV.out, rfl, ?_⟩; (clear H; intro g1 w1 H); go_frame) | (at_builtin; refine H.wlAppendBytes rfl _ _ rfl 1 _ _ _ _ (by rfl) rfl rfl _ _ _ _ (by rfl) rfl (H.o 0 rfl).rd (by rw [HLk.out]; simp; omega) ?_; (clear H; intro A1 c1 w1 H); simp only [List.set_cons_succ, List.set_cons_zero] at H))
      go_ret
      exact ⟨A, c, rfl, H.o 0 rfl, H.below⟩
theorem rnum6 {n : Int} (h0 : 0 ≤ n) (h1 : n < 281474976710656) (w : World) : Calls Tryd.prog 24 #[.int .i64 n, .int .i64 6] w (RetB w (putL 6 n)) := by
  rw [putL_six h0 h1]
  have := rnum_any 6 n.toNat w (by omega) (by omega)
  rwa [Int.toNat_of_nonneg h0] at this
theorem rnum2 {n : Int} (h0 : 0 ≤ n) (h1 : n < 65536) (w : World) : Calls Tryd.prog 24 #[.int .i64 n, .int .i64 2] w (RetB w (putL 2 n)) := by
  rw [putL_two h0 h1]
  have := rnum_any 2 n.toNat w (by omega) (by omega)
  rwa [Int.toNat_of_nonneg h0] at this
set_option maxHeartbeats 2000000 in
theorem rtxt_any (s : ByteArray) (w : World) (hs : s.size ≤ 255) : Calls Tryd.prog 27 #[.string s] w (RetB w (textL s.data.toList)) := by
  have H := Hp.nil w
  have hl : s.data.toList.length = s.size := by rw [Array.length_toList]; rfl
  have hT : textL s.data.toList = [UInt8.ofNat s.size] ++ s.data.toList := by rw [textL_ok (by omega), hl]; rfl
  have t3 : IntKind.u8.wrap (s.size : Int) = (s.size : Int) := by unfold IntKind.wrap; simp [IntKind.signed, IntKind.bits]; omega
  have HBV : Hid ([Value.int .u8 (s.size : Int)] = bvs [UInt8.ofNat s.size]) := Lib.hid (by show _ = [Value.int .u8 ((UInt8.ofNat s.size).toNat : Int)]; rw [ofNat_toNat, Nat.mod_eq_of_lt (by omega)])
  rw [hT]
  clear hT
  go_enter Tryd.func27, Tryd.ntmps27
  go_wp2_with (first | ((with_reducible refine Hp.bslB (parts := [_]) H ?_); refine ⟨rfl, rfl, rfl, _, rfl, [UInt8.ofNat s.size], HBV.out, rfl, ?_⟩; (clear H; intro g1 w1 H); go_frame) | (at_builtin; refine wpList_append_str _ rfl _ _ rfl w.heap.size _ _ _ _ rfl rfl (H.o 0 rfl) s rfl (by simp only [List.length_cons, List.length_nil]; omega) H.size ?_; (intro A1 c1 w2 hown hb)))
  go_ret
  exact ⟨A1, c1, rfl, hown, H.below.trans hb⟩
set_option maxHeartbeats 1000000 in
theorem rwho_any (i : Int) (w : World) (h0 : -100 ≤ i) (h1 : i < 100) : Calls Tryd.prog 22 #[.int .i64 i] w (RetV w (.int .u8 (whoN i))) := by
  have H := Hp.nil w
  unfold whoN
  by_cases h : i < 0
  · have hw : IntKind.i64.wrap (127 - i) = 127 - i := IntWalk.i64_in _ (by omega)
    have hw2 : IntKind.u8.wrap (127 - i) = 127 - i := by unfold IntKind.wrap; simp [IntKind.signed, IntKind.bits]; omega
    have d : decide (i < 0) = true := decide_eq_true h
    rw [if_pos h]
    clear h
    go_enter Tryd.func22, Tryd.ntmps22
    go_wp2_with (first | ((with_reducible refine Hp.bslB (parts := [_]) H ?_); refine ⟨rfl, rfl, rfl, _, rfl, [UInt8.ofNat s.size], HBV.out, rfl, ?_⟩; (clear H; intro g1 w1 H); go_frame) | (at_builtin; refine wpList_append_str _ rfl _ _ rfl w.heap.size _ _ _ _ rfl rfl (H.o 0 rfl) s rfl (by simp only [List.length_cons, List.length_nil]; omega) H.size ?_; (intro A1 c1 w2 hown hb)))
    go_ret
    exact ⟨rfl, H.below⟩
  · have hw2 : IntKind.u8.wrap i = i := by unfold IntKind.wrap; simp [IntKind.signed, IntKind.bits]; omega
    have d : decide (i < 0) = false := decide_eq_false h
    rw [if_neg h]
    clear h
    go_enter Tryd.func22, Tryd.ntmps22
    go_wp2_with (first | ((with_reducible refine Hp.bslB (parts := [_]) H ?_); refine ⟨rfl, rfl, rfl, _, rfl, [UInt8.ofNat s.size], HBV.out, rfl, ?_⟩; (clear H; intro g1 w1 H); go_frame) | (at_builtin; refine wpList_append_str _ rfl _ _ rfl w.heap.size _ _ _ _ rfl rfl (H.o 0 rfl) s rfl (by simp only [List.length_cons, List.length_nil]; omega) H.size ?_; (intro A1 c1 w2 hown hb)))
    go_ret
    exact ⟨rfl, H.below⟩
theorem cf_num (args : Array Value) (w : World) : (callFunc 24 args).run Tryd.prog w = .ok (.enter 24 args) w := by kernel_rfl
theorem cf_txt (args : Array Value) (w : World) : (callFunc 27 args).run Tryd.prog w = .ok (.enter 27 args) w := by kernel_rfl
set_option maxHeartbeats 2000000 in
theorem rbal20_any (r p : Int) (w : World) (h0 : 0 ≤ r) (h1 : r < 281474976710656) (h2 : 0 ≤ p) (h3 : p < 256) : Calls Tryd.prog 23 #[.agg (baC r p).toArray] w (RetB w (putL 6 r ++ putL 1 p)) := by
  have H := Hp.nil w
  have hw2 : IntKind.u8.wrap p = p := by unfold IntKind.wrap; simp [IntKind.signed, IntKind.bits]; omega
  have hp : putL 1 p = [UInt8.ofNat p.toNat] := by rw [putL_one h2 h3]; simp [leB]
  have HU : Hid (p = ((UInt8.ofNat p.toNat).toNat : Int)) := Lib.hid (by rw [ofNat_toNat]; omega)
  have HN := Lib.hid (fun w => rnum6 h0 h1 w)
  have m6 := putL_length6 6 r
  rw [hp]
  clear hp h0 h1 h2 h3
  go_enter Tryd.func23, Tryd.ntmps23
  go_wp2_with (first | ((with_reducible refine Hp.box H ?_); (first | refine ⟨rfl, baC r p, rfl, ?_⟩ | refine ⟨rfl, opC k s0 s1 s2, rfl, ?_⟩); (clear H; intro g1 w1 H); go_frame) | ((with_reducible refine Hp.ld H ?_); refine ⟨rfl, ?_⟩; refine ⟨c_look rfl, ?_⟩; refine ⟨_, _, rfl, ?_⟩; ((repeat ((fail_if_success refine ⟨_, _, _, .z, ?_⟩); refine hs ?_)); refine ⟨_, _, _, .z, ?_⟩); refine ⟨_, rfl, ?_⟩; go_frame) | (fail))
  refine hw_start [] [_] H (by kernel_rfl) (fun w1 H => ?_); have hS : HpW w _ w1 := ⟨[], H⟩; simp only [List.nil_append] at H
  (refine hw_take hS 0 (by decide +kernel) (by decide +kernel) (by decide +kernel) ⟨_, rfl, rfl, ?_, ?_, fun _ _ _ h => h, ?_⟩; rotate_left; (intro w _; go_simp; try with_reducible rfl); go_frame); (refine hw_take hS 1 (by decide +kernel) (by decide +kernel) (by decide +kernel) ⟨_, rfl, rfl, _, fun w h => ex_load rfl rfl (hw_ld (by kernel_rfl) (.z) rfl w h), fun _ _ _ h => h, ?_⟩; go_frame); (refine hw_take hS 3 (by decide +kernel) (by decide +kernel) (by decide +kernel) ⟨_, rfl, rfl, ?_, ?_, fun _ _ _ h => h, ?_⟩; rotate_left; (intro w _; go_simp; try with_reducible rfl); go_frame); (refine hw_take hS 4 (by decide +kernel) (by decide +kernel) (by decide +kernel) ⟨_, rfl, rfl, _, fun w h => ex_load rfl rfl (hw_ld (by kernel_rfl) (.z) rfl w h), fun _ _ _ h => h, ?_⟩; go_frame); (refine hw_take hS 5 (by decide +kernel) (by decide +kernel) (by decide +kernel) ⟨_, rfl, rfl, ?_, ?_, fun _ _ _ h => h, ?_⟩; rotate_left; (intro w _; go_simp; try with_reducible rfl); go_frame)
  clear hS
  (refine hw_two 2 6 (by decide +kernel) ⟨_, rfl, rfl, fun K hK => ?_⟩ ⟨_, rfl, rfl, fun K hK => ?_⟩)
  · refine hw_callB (vs := [_, _]) (HN.out _) cf_num rfl rfl rfl H (fun A1 c1 w1 H => ?_)
    refine hK _ _ ⟨[_], H⟩ ?_; clear hK K; go_frame; have hS : HpW _ _ _ := ⟨[_], H⟩
    clear hS
    (refine hw_one 6 (by decide +kernel) ⟨_, rfl, rfl, fun K hK => ?_⟩)
    refine hw_bslB1 (u := UInt8.ofNat p.toNat) rfl (congrArg (Value.int .u8) HU.out) H (fun g2 w1 H => ?_)
    refine hK _ _ ⟨[_, _], H⟩ ?_; clear hK K; go_frame; have hS : HpW _ _ _ := ⟨[_, _], H⟩
    clear hS
    (refine hw_one 7 (by decide +kernel) ⟨_, rfl, rfl, fun K hK => ?_⟩)
    refine hw_appB (i := 1) rfl rfl rfl rfl rfl H rfl (H.o 0 rfl).rd (by simp only [List.length_cons, List.length_nil]; omega) (fun A2 c2 w1 H => ?_)
    refine hK _ _ ⟨[_, _], H⟩ ?_; clear hK K; go_frame; have hS : HpW _ _ _ := ⟨[_, _], H⟩
    (refine hw_take hS 8 (by decide +kernel) (by decide +kernel) (by decide +kernel) ⟨_, rfl, rfl, ?_, ?_, fun _ _ _ h => h, ?_⟩; rotate_left; (intro w _; go_simp; try with_reducible rfl); go_frame)
    refine wpAnyH_done (by kernel_rfl) ?_ _
    clear hS
    go_wp2_with (first | ((with_reducible refine Hp.box H ?_); (first | refine ⟨rfl, baC r p, rfl, ?_⟩ | refine ⟨rfl, opC k s0 s1 s2, rfl, ?_⟩); (clear H; intro g1 w1 H); go_frame) | ((with_reducible refine Hp.ld H ?_); refine ⟨rfl, ?_⟩; refine ⟨c_look rfl, ?_⟩; refine ⟨_, _, rfl, ?_⟩; ((repeat ((fail_if_success refine ⟨_, _, _, .z, ?_⟩); refine hs ?_)); refine ⟨_, _, _, .z, ?_⟩); refine ⟨_, rfl, ?_⟩; go_frame) | (fail))
    go_ret
    exact retB_mk (by simp) (H.o 1 rfl) H.below
  · refine hw_bslB1 (u := UInt8.ofNat p.toNat) rfl (congrArg (Value.int .u8) HU.out) H (fun g2 w1 H => ?_)
    refine hK _ _ ⟨[_], H⟩ ?_; clear hK K; go_frame; have hS : HpW _ _ _ := ⟨[_], H⟩
    clear hS
    (refine hw_one 2 (by decide +kernel) ⟨_, rfl, rfl, fun K hK => ?_⟩)
    refine hw_callB (vs := [_, _]) (HN.out _) cf_num rfl rfl rfl H (fun A1 c1 w1 H => ?_)
    refine hK _ _ ⟨[_, _], H⟩ ?_; clear hK K; go_frame; have hS : HpW _ _ _ := ⟨[_, _], H⟩
    clear hS
    (refine hw_one 7 (by decide +kernel) ⟨_, rfl, rfl, fun K hK => ?_⟩)
    refine hw_appB (i := 0) rfl rfl rfl rfl rfl H rfl (H.o 1 rfl).rd (by simp only [List.length_cons, List.length_nil]; omega) (fun A2 c2 w1 H => ?_)
    refine hK _ _ ⟨[_, _], H⟩ ?_; clear hK K; go_frame; have hS : HpW _ _ _ := ⟨[_, _], H⟩
    (refine hw_take hS 8 (by decide +kernel) (by decide +kernel) (by decide +kernel) ⟨_, rfl, rfl, ?_, ?_, fun _ _ _ h => h, ?_⟩; rotate_left; (intro w _; go_simp; try with_reducible rfl); go_frame)
    refine wpAnyH_done (by kernel_rfl) ?_ _
    clear hS
    go_wp2_with (first | ((with_reducible refine Hp.box H ?_); (first | refine ⟨rfl, baC r p, rfl, ?_⟩ | refine ⟨rfl, opC k s0 s1 s2, rfl, ?_⟩); (clear H; intro g1 w1 H); go_frame) | ((with_reducible refine Hp.ld H ?_); refine ⟨rfl, ?_⟩; refine ⟨c_look rfl, ?_⟩; refine ⟨_, _, rfl, ?_⟩; ((repeat ((fail_if_success refine ⟨_, _, _, .z, ?_⟩); refine hs ?_)); refine ⟨_, _, _, .z, ?_⟩); refine ⟨_, rfl, ?_⟩; go_frame) | (fail))
    go_ret
    exact retB_mk (by simp) (H.o 0 rfl) H.below
set_option maxHeartbeats 4000000 in
theorem rop_any (k : Int) (s0 s1 s2 : ByteArray) (w : World) (h0 : 0 ≤ k) (h1 : k < 256) (z0 : s0.size ≤ 255) (z1 : s1.size ≤ 255) (z2 : s2.size ≤ 255) :
    Calls Tryd.prog 26 #[.agg (opC k s0 s1 s2).toArray] w (RetB w (putL 1 k ++ (textL s0.data.toList ++ (textL s1.data.toList ++ textL s2.data.toList)))) := by
  have H := Hp.nil w
  have hp : putL 1 k = [UInt8.ofNat k.toNat] := by rw [putL_one h0 h1]; simp [leB]
  have HU : Hid (k = ((UInt8.ofNat k.toNat).toNat : Int)) := Lib.hid (by rw [ofNat_toNat]; omega)
  have HT0 := Lib.hid (fun w => rtxt_any s0 w z0)
  have HT1 := Lib.hid (fun w => rtxt_any s1 w z1)
  have HT2 := Lib.hid (fun w => rtxt_any s2 w z2)
  have m0 := textL_length_le s0.data.toList
  have m1 := textL_length_le s1.data.toList
  have m2 := textL_length_le s2.data.toList
  rw [hp]
  clear hp h0 h1
  go_enter Tryd.func26, Tryd.ntmps26
  go_wp2_with (first | ((with_reducible refine Hp.box H ?_); (first | refine ⟨rfl, baC r p, rfl, ?_⟩ | refine ⟨rfl, opC k s0 s1 s2, rfl, ?_⟩); (clear H; intro g1 w1 H); go_frame) | ((with_reducible refine Hp.ld H ?_); refine ⟨rfl, ?_⟩; refine ⟨c_look rfl, ?_⟩; refine ⟨_, _, rfl, ?_⟩; ((repeat ((fail_if_success refine ⟨_, _, _, .z, ?_⟩); refine hs ?_)); refine ⟨_, _, _, .z, ?_⟩); refine ⟨_, rfl, ?_⟩; go_frame) | (fail))
  refine hw_start [] [_] H (by kernel_rfl) (fun w1 H => ?_); have hS : HpW w _ w1 := ⟨[], H⟩; simp only [List.nil_append] at H
  (refine hw_take hS 0 (by decide +kernel) (by decide +kernel) (by decide +kernel) ⟨_, rfl, rfl, ?_, ?_, fun _ _ _ h => h, ?_⟩; rotate_left; (intro w _; go_simp; try with_reducible rfl); go_frame); (refine hw_take hS 1 (by decide +kernel) (by decide +kernel) (by decide +kernel) ⟨_, rfl, rfl, _, fun w h => ex_load rfl rfl (hw_ld (by kernel_rfl) (.z) rfl w h), fun _ _ _ h => h, ?_⟩; go_frame); (refine hw_take hS 3 (by decide +kernel) (by decide +kernel) (by decide +kernel) ⟨_, rfl, rfl, ?_, ?_, fun _ _ _ h => h, ?_⟩; rotate_left; (intro w _; go_simp; try with_reducible rfl); go_frame); (refine hw_take hS 4 (by decide +kernel) (by decide +kernel) (by decide +kernel) ⟨_, rfl, rfl, _, fun w h => ex_load rfl rfl (hw_ld (by kernel_rfl) (.z) rfl w h), fun _ _ _ h => h, ?_⟩; go_frame)
  clear hS
  (refine hw_two 2 5 (by decide +kernel) ⟨_, rfl, rfl, fun K hK => ?_⟩ ⟨_, rfl, rfl, fun K hK => ?_⟩)
  · refine hw_bslB1 (u := UInt8.ofNat k.toNat) rfl (congrArg (Value.int .u8) HU.out) H (fun g2 w1 H => ?_)
    refine hK _ _ ⟨[_], H⟩ ?_; clear hK K; go_frame; have hS : HpW _ _ _ := ⟨[_], H⟩
    clear hS
    (refine hw_one 5 (by decide +kernel) ⟨_, rfl, rfl, fun K hK => ?_⟩)
    refine hw_callB (vs := [_]) (HT0.out _) cf_txt rfl rfl rfl H (fun A1 c1 w1 H => ?_)
    refine hK _ _ ⟨[_, _], H⟩ ?_; clear hK K; go_frame; have hS : HpW _ _ _ := ⟨[_, _], H⟩
    clear hS
    (refine hw_one 6 (by decide +kernel) ⟨_, rfl, rfl, fun K hK => ?_⟩)
    refine hw_appB (i := 1) rfl rfl rfl rfl rfl H rfl (H.o 0 rfl).rd (by simp only [List.length_cons, List.length_nil]; omega) (fun A2 c2 w1 H => ?_)
    refine hK _ _ ⟨[_, _], H⟩ ?_; clear hK K; go_frame; have hS : HpW _ _ _ := ⟨[_, _], H⟩
    (refine hw_take hS 7 (by decide +kernel) (by decide +kernel) (by decide +kernel) ⟨_, rfl, rfl, ?_, ?_, fun _ _ _ h => h, ?_⟩; rotate_left; (intro w _; go_simp; try with_reducible rfl); go_frame)
    refine wpAnyH_done (by kernel_rfl) ?_ _
    clear hS
    replace H := H.tail
    go_wp2_with (first | ((with_reducible refine Hp.box H ?_); (first | refine ⟨rfl, baC r p, rfl, ?_⟩ | refine ⟨rfl, opC k s0 s1 s2, rfl, ?_⟩); (clear H; intro g1 w1 H); go_frame) | ((with_reducible refine Hp.ld H ?_); refine ⟨rfl, ?_⟩; refine ⟨c_look rfl, ?_⟩; refine ⟨_, _, rfl, ?_⟩; ((repeat ((fail_if_success refine ⟨_, _, _, .z, ?_⟩); refine hs ?_)); refine ⟨_, _, _, .z, ?_⟩); refine ⟨_, rfl, ?_⟩; go_frame) | ((first | (with_reducible refine (HT1.out _).mono ?_) | (with_reducible refine (HT2.out _).mono ?_)); rintro _ w1 ⟨A1, c1, rfl, hown, hb⟩; replace H := H.callOwn hb hown; clear hb hown) | (at_builtin; refine H.wlAppendBytes rfl _ _ rfl 1 _ _ _ _ (by rfl) rfl (by simp only [List.length_append, List.length_cons, List.length_nil]; first | done | omega) _ _ _ _ (by rfl) rfl (H.o 0 rfl).rd (by simp only [List.length_append, List.length_cons, List.length_nil]; omega) ?_; (clear H; intro A1 c1 w1 H); simp only [List.set_cons_succ, List.set_cons_zero] at H) | (at_builtin; refine H.wlAppendBytes rfl _ _ rfl 2 _ _ _ _ (by rfl) rfl (by simp only [List.length_append, List.length_cons, List.length_nil]; first | done | omega) _ _ _ _ (by rfl) rfl (H.o 0 rfl).rd (by simp only [List.length_append, List.length_cons, List.length_nil]; omega) ?_; (clear H; intro A1 c1 w1 H); simp only [List.set_cons_succ, List.set_cons_zero] at H))
    go_ret
    refine retB_mk (by simp) (l := _) ?_ H.below
    simpa using H.o 2 rfl
  · refine hw_callB (vs := [_]) (HT0.out _) cf_txt rfl rfl rfl H (fun A1 c1 w1 H => ?_)
    refine hK _ _ ⟨[_], H⟩ ?_; clear hK K; go_frame; have hS : HpW _ _ _ := ⟨[_], H⟩
    clear hS
    (refine hw_one 2 (by decide +kernel) ⟨_, rfl, rfl, fun K hK => ?_⟩)
    refine hw_bslB1 (u := UInt8.ofNat k.toNat) rfl (congrArg (Value.int .u8) HU.out) H (fun g2 w1 H => ?_)
    refine hK _ _ ⟨[_, _], H⟩ ?_; clear hK K; go_frame; have hS : HpW _ _ _ := ⟨[_, _], H⟩
    clear hS
    (refine hw_one 6 (by decide +kernel) ⟨_, rfl, rfl, fun K hK => ?_⟩)
    refine hw_appB (i := 0) rfl rfl rfl rfl rfl H rfl (H.o 1 rfl).rd (by simp only [List.length_cons, List.length_nil]; omega) (fun A2 c2 w1 H => ?_)
    refine hK _ _ ⟨[_, _], H⟩ ?_; clear hK K; go_frame; have hS : HpW _ _ _ := ⟨[_, _], H⟩
    (refine hw_take hS 7 (by decide +kernel) (by decide +kernel) (by decide +kernel) ⟨_, rfl, rfl, ?_, ?_, fun _ _ _ h => h, ?_⟩; rotate_left; (intro w _; go_simp; try with_reducible rfl); go_frame)
    refine wpAnyH_done (by kernel_rfl) ?_ _
    clear hS
    replace H := H.rot2.tail
    go_wp2_with (first | ((with_reducible refine Hp.box H ?_); (first | refine ⟨rfl, baC r p, rfl, ?_⟩ | refine ⟨rfl, opC k s0 s1 s2, rfl, ?_⟩); (clear H; intro g1 w1 H); go_frame) | ((with_reducible refine Hp.ld H ?_); refine ⟨rfl, ?_⟩; refine ⟨c_look rfl, ?_⟩; refine ⟨_, _, rfl, ?_⟩; ((repeat ((fail_if_success refine ⟨_, _, _, .z, ?_⟩); refine hs ?_)); refine ⟨_, _, _, .z, ?_⟩); refine ⟨_, rfl, ?_⟩; go_frame) | ((first | (with_reducible refine (HT1.out _).mono ?_) | (with_reducible refine (HT2.out _).mono ?_)); rintro _ w1 ⟨A1, c1, rfl, hown, hb⟩; replace H := H.callOwn hb hown; clear hb hown) | (at_builtin; refine H.wlAppendBytes rfl _ _ rfl 1 _ _ _ _ (by rfl) rfl (by simp only [List.length_append, List.length_cons, List.length_nil]; first | done | omega) _ _ _ _ (by rfl) rfl (H.o 0 rfl).rd (by simp only [List.length_append, List.length_cons, List.length_nil]; omega) ?_; (clear H; intro A1 c1 w1 H); simp only [List.set_cons_succ, List.set_cons_zero] at H) | (at_builtin; refine H.wlAppendBytes rfl _ _ rfl 2 _ _ _ _ (by rfl) rfl (by simp only [List.length_append, List.length_cons, List.length_nil]; first | done | omega) _ _ _ _ (by rfl) rfl (H.o 0 rfl).rd (by simp only [List.length_append, List.length_cons, List.length_nil]; omega) ?_; (clear H; intro A1 c1 w1 H); simp only [List.set_cons_succ, List.set_cons_zero] at H))
    go_ret
    refine retB_mk (by simp) (l := _) ?_ H.below
    simpa using H.o 2 rfl
end Go.Proofs.YtajgikjmoeemnaaDoor

/-
  THE WALK OF (*message.writer).field: reports; any letter.
-/
namespace Go.Proofs.YtajgikjmoeemnaaDoor
set_option maxRecDepth 100000
open Go.RowKit
set_option linter.unusedVariables false
set_option linter.unusedSimpArgs false
theorem repL_len (x : Rp) : (repL x).length ≤ 80 := by
  unfold repL
  have m0 := putL_length6 6 x.ix
  have m1 := putL_length6 1 x.st
  have m2 := putL_length6 6 x.r
  have m3 := putL_length6 1 x.p
  have m4 := bytesL_len x.e
  split <;> split <;> simp only [List.length_append, List.length_nil] <;> omega
theorem repsL_snoc (rs : List Rp) (k : Nat) (h : k < rs.length) : repsL (rs.take (k + 1)) = repsL (rs.take k) ++ repL rs[k] := by
  unfold repsL
  rw [List.take_succ_eq_append_getElem h, List.map_append, List.flatten_append, List.map_cons, List.map_nil, List.flatten_cons, List.flatten_nil, List.append_nil]
/-- the loop's relation -/
def WRel (w0 : World) (g gm : Nat) (l1 : List UInt8) (m : Mg) (rs : List Rp) (L : List Item) (v : Value) (wr : World) : Prop :=
  ∃ (k : Nat) (A : Option Addr) (c : Nat) (cur : List UInt8), k ≤ rs.length ∧ v = .int .i64 k ∧ cur = l1 ++ repsL (rs.take k) ∧ cur.length ≤ 10010 + 80 * k ∧ Hp w0 wr (wrI g A c cur :: .bytes A c cur :: .blk gm 34 (mgC m) :: L)
set_option maxHeartbeats 8000000 in
theorem field_108 (m : Mg) (rs : List Rp) (l : List UInt8) (g : Nat) (A : Option Addr) (c : Nat) (l0 : List UInt8) (w0 w : World) (L : List Item) (hl : l0.length ≤ 10000) (hN : MgN m) (hR : MgR w0 m rs l) (h24 : rs.length ≤ 100) (H : Hp w0 w (wrI g A c l0 :: .bytes A c l0 :: L)) :
    Calls Tryd.prog 32 #[.pointer (some ⟨g, 0, none⟩), .agg (mgC m).toArray, .int .i32 108] w (RetWr w0 g (l0 ++ fieldL 108 m rs l) L) := by
  have hF : fieldL 108 m rs l = putL 1 (rs.length : Int) ++ repsL rs := rfl
  have HF := Lib.hid hF
  have hn1 := hR.n1
  have hn1' : (m.rn : Int) = rs.length := by rw [hn1]
  have HN1 := Lib.hid hn1
  have m0 := putL_length6 1 (rs.length : Int)
  have hrk := True.intro
  have HSE := True.intro
  have HUE := True.intro
  clear hF hn1
  by_cases h0 : rs = []
  · subst h0
    have hn0 : m.rn = 0 := HN1.out
    clear hn1'
    go_enter Tryd.func32, Tryd.ntmps32
    go_wp2_with (first | ((with_reducible refine Hp.box H ?_); (first | refine ⟨rfl, mgC _, rfl, ?_⟩); (clear H; intro gm w1 H); (replace H := H.rot3); go_frame) | ((with_reducible refine Hp.allo H ?_); refine ⟨rfl, ?_⟩; refine ⟨_, z_look rfl, ?_⟩; (clear H; intro gx w1 H); go_frame) | ((with_reducible refine Hp.ld H ?_); refine ⟨rfl, ?_⟩; refine ⟨c_look rfl, ?_⟩; refine ⟨_, _, rfl, ?_⟩; (first | refine ⟨_, _, _, .z, ?_⟩ | refine ⟨_, _, _, .s .z, ?_⟩ | refine ⟨_, _, _, .s (.s .z), ?_⟩ | refine ⟨_, _, _, .s (.s (.s .z)), ?_⟩); refine ⟨_, rfl, ?_⟩; go_frame) | ((with_reducible refine Hp.lda H ?_); refine ⟨rfl, by kernel_rfl, ?_⟩; refine ⟨_, s_look rfl, ?_⟩; refine ⟨_, rfl, ?_⟩; (first | refine ⟨_, _, _, .z, ?_⟩ | refine ⟨_, _, _, .s .z, ?_⟩ | refine ⟨_, _, _, .s (.s .z), ?_⟩ | refine ⟨_, _, _, .s (.s (.s .z)), ?_⟩); refine ⟨rfl, ?_⟩; go_frame) | ((with_reducible refine Hp.lds H ?_); refine ⟨rfl, by kernel_rfl, ?_⟩; refine ⟨_, s_look rfl, ?_⟩; refine ⟨_, _, rfl, ?_⟩; (first | refine ⟨_, _, _, .z, ?_⟩ | refine ⟨_, _, _, .s .z, ?_⟩ | refine ⟨_, _, _, .s (.s .z), ?_⟩ | refine ⟨_, _, _, .s (.s (.s .z)), ?_⟩); (first | refine ⟨baC xr xp, rfl, rfl, ?_⟩ | refine ⟨enC e, rfl, rfl, ?_⟩); go_frame) | ((with_reducible refine Hp.sta H ?_); refine ⟨rfl, ?_⟩; refine ⟨_, s_look rfl, ?_⟩; refine ⟨_, rfl, _, rfl, rfl, ?_⟩; (first | refine ⟨_, _, _, .z, ?_⟩ | refine ⟨_, _, _, .s .z, ?_⟩ | refine ⟨_, _, _, .s (.s .z), ?_⟩ | refine ⟨_, _, _, .s (.s (.s .z)), ?_⟩); refine ⟨rfl, rfl, ?_⟩; (clear H; intro w1 H; simp only [List.set] at H); (replace H := H.rot3); go_frame) | ((with_reducible refine Hp.str H ?_); refine ⟨rfl, ?_⟩; refine ⟨_, s_look rfl, ?_⟩; refine ⟨_, _, rfl, _, rfl, rfl, ?_⟩; (first | refine ⟨_, _, _, .z, ?_⟩ | refine ⟨_, _, _, .s .z, ?_⟩ | refine ⟨_, _, _, .s (.s .z), ?_⟩ | refine ⟨_, _, _, .s (.s (.s .z)), ?_⟩); refine ⟨rfl, _, rfl, _, rfl, Nat.le_of_ble_eq_true rfl, ?_⟩; (clear H; intro w1 H; simp only [List.set] at H); go_frame) | ((with_reducible refine Hp.bslI (parts := [_]) H ?_); refine ⟨rfl, rfl, rfl, [.int .i64 _], rfl, rfl, rfl, ?_⟩; (clear H; intro g2 w1 H); go_frame) | ((with_reducible refine Hp.ldrO H ?_); refine ⟨rfl, by kernel_rfl, _, _, rfl, _, hrk, s_Report, ?_⟩; go_frame) | ((with_reducible refine (wnum_any _ _ _ _ _ _ _ _ _ _ (by first | omega | (simp only [List.length_append]; omega)) H).mono ?_); rintro _ w1 ⟨A', c', rfl, HQ⟩; replace H := HQ; clear HQ) | ((with_reducible refine (wbal_any _ _ _ _ _ _ _ _ _ (by first | omega | (simp only [List.length_append]; omega)) H).mono ?_); rintro _ w1 ⟨A', c', rfl, HQ⟩; replace H := HQ; clear HQ) | ((with_reducible refine (went_any _ HSE.out HUE.out _ _ _ _ _ _ _ (by first | omega | (simp only [List.length_append]; omega)) H).mono ?_); rintro _ w1 ⟨A', c', rfl, HQ⟩; replace H := HQ; clear HQ))
    refine wp_loop_rounds 1 ?_
    rw [rounds_succ]
    go_wp2_with (first | ((with_reducible refine Hp.box H ?_); (first | refine ⟨rfl, mgC _, rfl, ?_⟩); (clear H; intro gm w1 H); (replace H := H.rot3); go_frame) | ((with_reducible refine Hp.allo H ?_); refine ⟨rfl, ?_⟩; refine ⟨_, z_look rfl, ?_⟩; (clear H; intro gx w1 H); go_frame) | ((with_reducible refine Hp.ld H ?_); refine ⟨rfl, ?_⟩; refine ⟨c_look rfl, ?_⟩; refine ⟨_, _, rfl, ?_⟩; (first | refine ⟨_, _, _, .z, ?_⟩ | refine ⟨_, _, _, .s .z, ?_⟩ | refine ⟨_, _, _, .s (.s .z), ?_⟩ | refine ⟨_, _, _, .s (.s (.s .z)), ?_⟩); refine ⟨_, rfl, ?_⟩; go_frame) | ((with_reducible refine Hp.lda H ?_); refine ⟨rfl, by kernel_rfl, ?_⟩; refine ⟨_, s_look rfl, ?_⟩; refine ⟨_, rfl, ?_⟩; (first | refine ⟨_, _, _, .z, ?_⟩ | refine ⟨_, _, _, .s .z, ?_⟩ | refine ⟨_, _, _, .s (.s .z), ?_⟩ | refine ⟨_, _, _, .s (.s (.s .z)), ?_⟩); refine ⟨rfl, ?_⟩; go_frame) | ((with_reducible refine Hp.lds H ?_); refine ⟨rfl, by kernel_rfl, ?_⟩; refine ⟨_, s_look rfl, ?_⟩; refine ⟨_, _, rfl, ?_⟩; (first | refine ⟨_, _, _, .z, ?_⟩ | refine ⟨_, _, _, .s .z, ?_⟩ | refine ⟨_, _, _, .s (.s .z), ?_⟩ | refine ⟨_, _, _, .s (.s (.s .z)), ?_⟩); (first | refine ⟨baC xr xp, rfl, rfl, ?_⟩ | refine ⟨enC e, rfl, rfl, ?_⟩); go_frame) | ((with_reducible refine Hp.sta H ?_); refine ⟨rfl, ?_⟩; refine ⟨_, s_look rfl, ?_⟩; refine ⟨_, rfl, _, rfl, rfl, ?_⟩; (first | refine ⟨_, _, _, .z, ?_⟩ | refine ⟨_, _, _, .s .z, ?_⟩ | refine ⟨_, _, _, .s (.s .z), ?_⟩ | refine ⟨_, _, _, .s (.s (.s .z)), ?_⟩); refine ⟨rfl, rfl, ?_⟩; (clear H; intro w1 H; simp only [List.set] at H); (replace H := H.rot3); go_frame) | ((with_reducible refine Hp.str H ?_); refine ⟨rfl, ?_⟩; refine ⟨_, s_look rfl, ?_⟩; refine ⟨_, _, rfl, _, rfl, rfl, ?_⟩; (first | refine ⟨_, _, _, .z, ?_⟩ | refine ⟨_, _, _, .s .z, ?_⟩ | refine ⟨_, _, _, .s (.s .z), ?_⟩ | refine ⟨_, _, _, .s (.s (.s .z)), ?_⟩); refine ⟨rfl, _, rfl, _, rfl, Nat.le_of_ble_eq_true rfl, ?_⟩; (clear H; intro w1 H; simp only [List.set] at H); go_frame) | ((with_reducible refine Hp.bslI (parts := [_]) H ?_); refine ⟨rfl, rfl, rfl, [.int .i64 _], rfl, rfl, rfl, ?_⟩; (clear H; intro g2 w1 H); go_frame) | ((with_reducible refine Hp.ldrO H ?_); refine ⟨rfl, by kernel_rfl, _, _, rfl, _, hrk, s_Report, ?_⟩; go_frame) | ((with_reducible refine (wnum_any _ _ _ _ _ _ _ _ _ _ (by first | omega | (simp only [List.length_append]; omega)) H).mono ?_); rintro _ w1 ⟨A', c', rfl, HQ⟩; replace H := HQ; clear HQ) | ((with_reducible refine (wbal_any _ _ _ _ _ _ _ _ _ (by first | omega | (simp only [List.length_append]; omega)) H).mono ?_); rintro _ w1 ⟨A', c', rfl, HQ⟩; replace H := HQ; clear HQ) | ((with_reducible refine (went_any _ HSE.out HUE.out _ _ _ _ _ _ _ (by first | omega | (simp only [List.length_append]; omega)) H).mono ?_); rintro _ w1 ⟨A', c', rfl, HQ⟩; replace H := HQ; clear HQ))
    go_end0
    refine ⟨A', c', rfl, ?_⟩
    have e : l0 ++ putL 1 0 = l0 ++ fieldL 108 m [] l := by rw [HF.out]; simp [repsL]
    rw [← e]
    exact H.del3
  · obtain ⟨b, o, hra, hrow⟩ := hR.rr h0
    have HROW := Lib.hid hrow
    clear hrow h0
    obtain ⟨k0, fr, to, br, bp, ix0, cm, nc, ck, ct, sq, e0, ok, o0, o1, o2, re, rf, rv, rA, rn, rc, yA, yn, yc⟩ := m
    simp only at hra
    subst hra
    go_enter Tryd.func32, Tryd.ntmps32
    go_wp2_with (first | ((with_reducible refine Hp.box H ?_); (first | refine ⟨rfl, mgC _, rfl, ?_⟩); (clear H; intro gm w1 H); (replace H := H.rot3); go_frame) | ((with_reducible refine Hp.allo H ?_); refine ⟨rfl, ?_⟩; refine ⟨_, z_look rfl, ?_⟩; (clear H; intro gx w1 H); go_frame) | ((with_reducible refine Hp.ld H ?_); refine ⟨rfl, ?_⟩; refine ⟨c_look rfl, ?_⟩; refine ⟨_, _, rfl, ?_⟩; (first | refine ⟨_, _, _, .z, ?_⟩ | refine ⟨_, _, _, .s .z, ?_⟩ | refine ⟨_, _, _, .s (.s .z), ?_⟩ | refine ⟨_, _, _, .s (.s (.s .z)), ?_⟩); refine ⟨_, rfl, ?_⟩; go_frame) | ((with_reducible refine Hp.lda H ?_); refine ⟨rfl, by kernel_rfl, ?_⟩; refine ⟨_, s_look rfl, ?_⟩; refine ⟨_, rfl, ?_⟩; (first | refine ⟨_, _, _, .z, ?_⟩ | refine ⟨_, _, _, .s .z, ?_⟩ | refine ⟨_, _, _, .s (.s .z), ?_⟩ | refine ⟨_, _, _, .s (.s (.s .z)), ?_⟩); refine ⟨rfl, ?_⟩; go_frame) | ((with_reducible refine Hp.lds H ?_); refine ⟨rfl, by kernel_rfl, ?_⟩; refine ⟨_, s_look rfl, ?_⟩; refine ⟨_, _, rfl, ?_⟩; (first | refine ⟨_, _, _, .z, ?_⟩ | refine ⟨_, _, _, .s .z, ?_⟩ | refine ⟨_, _, _, .s (.s .z), ?_⟩ | refine ⟨_, _, _, .s (.s (.s .z)), ?_⟩); (first | refine ⟨baC xr xp, rfl, rfl, ?_⟩ | refine ⟨enC e, rfl, rfl, ?_⟩); go_frame) | ((with_reducible refine Hp.sta H ?_); refine ⟨rfl, ?_⟩; refine ⟨_, s_look rfl, ?_⟩; refine ⟨_, rfl, _, rfl, rfl, ?_⟩; (first | refine ⟨_, _, _, .z, ?_⟩ | refine ⟨_, _, _, .s .z, ?_⟩ | refine ⟨_, _, _, .s (.s .z), ?_⟩ | refine ⟨_, _, _, .s (.s (.s .z)), ?_⟩); refine ⟨rfl, rfl, ?_⟩; (clear H; intro w1 H; simp only [List.set] at H); (replace H := H.rot3); go_frame) | ((with_reducible refine Hp.str H ?_); refine ⟨rfl, ?_⟩; refine ⟨_, s_look rfl, ?_⟩; refine ⟨_, _, rfl, _, rfl, rfl, ?_⟩; (first | refine ⟨_, _, _, .z, ?_⟩ | refine ⟨_, _, _, .s .z, ?_⟩ | refine ⟨_, _, _, .s (.s .z), ?_⟩ | refine ⟨_, _, _, .s (.s (.s .z)), ?_⟩); refine ⟨rfl, _, rfl, _, rfl, Nat.le_of_ble_eq_true rfl, ?_⟩; (clear H; intro w1 H; simp only [List.set] at H); go_frame) | ((with_reducible refine Hp.bslI (parts := [_]) H ?_); refine ⟨rfl, rfl, rfl, [.int .i64 _], rfl, rfl, rfl, ?_⟩; (clear H; intro g2 w1 H); go_frame) | ((with_reducible refine Hp.ldrO H ?_); refine ⟨rfl, by kernel_rfl, _, _, rfl, _, hrk, s_Report, ?_⟩; go_frame) | ((with_reducible refine (wnum_any _ _ _ _ _ _ _ _ _ _ (by first | omega | (simp only [List.length_append]; omega)) H).mono ?_); rintro _ w1 ⟨A', c', rfl, HQ⟩; replace H := HQ; clear HQ) | ((with_reducible refine (wbal_any _ _ _ _ _ _ _ _ _ (by first | omega | (simp only [List.length_append]; omega)) H).mono ?_); rintro _ w1 ⟨A', c', rfl, HQ⟩; replace H := HQ; clear HQ) | ((with_reducible refine (went_any _ HSE.out HUE.out _ _ _ _ _ _ _ (by first | omega | (simp only [List.length_append]; omega)) H).mono ?_); rintro _ w1 ⟨A', c', rfl, HQ⟩; replace H := HQ; clear HQ))
    have hat : WRel w0 g gm (l0 ++ putL 1 (rs.length : Int)) _ rs L (.int .i64 (0 : Nat)) w1 := ⟨0, A', c', _, Nat.zero_le _, rfl, by simp [repsL], by simp only [List.length_append]; omega, H⟩
    clear hrk HSE HUE H
    go_loopw [8, 110] (fun _ v wr => WRel w0 g gm (l0 ++ putL 1 (rs.length : Int)) _ rs L v wr) (fun _ v _ => rs.length - (intOf v).toNat)
    case atStart => exact hat
    case round =>
      clear hat
      obtain ⟨k, A, c, cur, hk, rfl, hcur, hcl, H⟩ := hrel
      have HCU := Lib.hid hcur
      clear hcur
      have hmx := hR.mx
      have hle := hR.le
      unfold maxLen at hmx
      by_cases hlt : k < rs.length
      · have hrow := HROW.out
        have hlA : k < rn := by rw [HN1.out]; exact hlt
        have hrk := hrow k hlt
        have hxok := hR.ok _ (List.getElem_mem hlt)
        have hK := hlt
        obtain ⟨x, hxe⟩ : ∃ x, rs[k] = x := ⟨_, rfl⟩
        rw [hxe] at hrk hxok
        have HXE := Lib.hid hxe
        clear hxe hrow
        obtain ⟨ix, st, xr, xp, e⟩ := x
        obtain ⟨_, hst, _, _, hse, hue, _, _⟩ := hxok
        have HSE := Lib.hid hse
        have HUE := Lib.hid hue
        have hw : IntKind.i64.wrap st = st := IntWalk.i64_in _ (by simp only at hst; omega)
        clear hse hue hst
        have m1 := putL_length6 6 ix
        have m2 := putL_length6 1 st
        have m3 := putL_length6 6 xr
        have m4 := putL_length6 1 xp
        have m5 := bytesL_len e
        by_cases h4 : st = 4
        · subst h4
          have HRP : Hid (repL ⟨ix, 4, xr, xp, e⟩ = putL 6 ix ++ putL 1 4) := Lib.hid (by unfold repL; simp)
          have HRL : Hid ((putL 6 ix ++ putL 1 4).length ≤ 80) := Lib.hid (by rw [← HRP.out]; exact repL_len _)
          go_wp2_with (first | ((with_reducible refine Hp.box H ?_); (first | refine ⟨rfl, mgC _, rfl, ?_⟩); (clear H; intro gm w1 H); (replace H := H.rot3); go_frame) | ((with_reducible refine Hp.allo H ?_); refine ⟨rfl, ?_⟩; refine ⟨_, z_look rfl, ?_⟩; (clear H; intro gx w1 H); go_frame) | ((with_reducible refine Hp.ld H ?_); refine ⟨rfl, ?_⟩; refine ⟨c_look rfl, ?_⟩; refine ⟨_, _, rfl, ?_⟩; (first | refine ⟨_, _, _, .z, ?_⟩ | refine ⟨_, _, _, .s .z, ?_⟩ | refine ⟨_, _, _, .s (.s .z), ?_⟩ | refine ⟨_, _, _, .s (.s (.s .z)), ?_⟩); refine ⟨_, rfl, ?_⟩; go_frame) | ((with_reducible refine Hp.lda H ?_); refine ⟨rfl, by kernel_rfl, ?_⟩; refine ⟨_, s_look rfl, ?_⟩; refine ⟨_, rfl, ?_⟩; (first | refine ⟨_, _, _, .z, ?_⟩ | refine ⟨_, _, _, .s .z, ?_⟩ | refine ⟨_, _, _, .s (.s .z), ?_⟩ | refine ⟨_, _, _, .s (.s (.s .z)), ?_⟩); refine ⟨rfl, ?_⟩; go_frame) | ((with_reducible refine Hp.lds H ?_); refine ⟨rfl, by kernel_rfl, ?_⟩; refine ⟨_, s_look rfl, ?_⟩; refine ⟨_, _, rfl, ?_⟩; (first | refine ⟨_, _, _, .z, ?_⟩ | refine ⟨_, _, _, .s .z, ?_⟩ | refine ⟨_, _, _, .s (.s .z), ?_⟩ | refine ⟨_, _, _, .s (.s (.s .z)), ?_⟩); (first | refine ⟨baC xr xp, rfl, rfl, ?_⟩ | refine ⟨enC e, rfl, rfl, ?_⟩); go_frame) | ((with_reducible refine Hp.sta H ?_); refine ⟨rfl, ?_⟩; refine ⟨_, s_look rfl, ?_⟩; refine ⟨_, rfl, _, rfl, rfl, ?_⟩; (first | refine ⟨_, _, _, .z, ?_⟩ | refine ⟨_, _, _, .s .z, ?_⟩ | refine ⟨_, _, _, .s (.s .z), ?_⟩ | refine ⟨_, _, _, .s (.s (.s .z)), ?_⟩); refine ⟨rfl, rfl, ?_⟩; (clear H; intro w1 H; simp only [List.set] at H); (replace H := H.rot3); go_frame) | ((with_reducible refine Hp.str H ?_); refine ⟨rfl, ?_⟩; refine ⟨_, s_look rfl, ?_⟩; refine ⟨_, _, rfl, _, rfl, rfl, ?_⟩; (first | refine ⟨_, _, _, .z, ?_⟩ | refine ⟨_, _, _, .s .z, ?_⟩ | refine ⟨_, _, _, .s (.s .z), ?_⟩ | refine ⟨_, _, _, .s (.s (.s .z)), ?_⟩); refine ⟨rfl, _, rfl, _, rfl, Nat.le_of_ble_eq_true rfl, ?_⟩; (clear H; intro w1 H; simp only [List.set] at H); go_frame) | ((with_reducible refine Hp.bslI (parts := [_]) H ?_); refine ⟨rfl, rfl, rfl, [.int .i64 _], rfl, rfl, rfl, ?_⟩; (clear H; intro g2 w1 H); go_frame) | ((with_reducible refine Hp.ldrO H ?_); refine ⟨rfl, by kernel_rfl, _, _, rfl, _, hrk, s_Report, ?_⟩; go_frame) | ((with_reducible refine (wnum_any _ _ _ _ _ _ _ _ _ _ (by first | omega | (simp only [List.length_append]; omega)) H).mono ?_); rintro _ w1 ⟨A', c', rfl, HQ⟩; replace H := HQ; clear HQ) | ((with_reducible refine (wbal_any _ _ _ _ _ _ _ _ _ (by first | omega | (simp only [List.length_append]; omega)) H).mono ?_); rintro _ w1 ⟨A', c', rfl, HQ⟩; replace H := HQ; clear HQ) | ((with_reducible refine (went_any _ HSE.out HUE.out _ _ _ _ _ _ _ (by first | omega | (simp only [List.length_append]; omega)) H).mono ?_); rintro _ w1 ⟨A', c', rfl, HQ⟩; replace H := HQ; clear HQ)); go_roundw; (case rel => refine ⟨k + 1, A', c', _, hK, rfl, ?_, ?_, H.del3⟩; (· rw [repsL_snoc rs k hK, HXE.out, HRP.out, HCU.out]; simp only [List.append_assoc]); (· have := HRL.out; simp only [List.length_append] at this ⊢; omega)); (case measure => show rs.length - ((k : Int) + 1).toNat < rs.length - ((k : Int)).toNat; omega)
        have b4 : (st != 4) = true := by simp [h4]
        by_cases h2 : st = 2
        · subst h2
          clear h4
          have HRP : Hid (repL ⟨ix, 2, xr, xp, e⟩ = putL 6 ix ++ putL 1 2 ++ (putL 6 xr ++ putL 1 xp ++ bytesL e)) := Lib.hid (by unfold repL; simp)
          have HRL : Hid ((putL 6 ix ++ putL 1 2 ++ (putL 6 xr ++ putL 1 xp ++ bytesL e)).length ≤ 80) := Lib.hid (by rw [← HRP.out]; exact repL_len _)
          go_wp2_with (first | ((with_reducible refine Hp.box H ?_); (first | refine ⟨rfl, mgC _, rfl, ?_⟩); (clear H; intro gm w1 H); (replace H := H.rot3); go_frame) | ((with_reducible refine Hp.allo H ?_); refine ⟨rfl, ?_⟩; refine ⟨_, z_look rfl, ?_⟩; (clear H; intro gx w1 H); go_frame) | ((with_reducible refine Hp.ld H ?_); refine ⟨rfl, ?_⟩; refine ⟨c_look rfl, ?_⟩; refine ⟨_, _, rfl, ?_⟩; (first | refine ⟨_, _, _, .z, ?_⟩ | refine ⟨_, _, _, .s .z, ?_⟩ | refine ⟨_, _, _, .s (.s .z), ?_⟩ | refine ⟨_, _, _, .s (.s (.s .z)), ?_⟩); refine ⟨_, rfl, ?_⟩; go_frame) | ((with_reducible refine Hp.lda H ?_); refine ⟨rfl, by kernel_rfl, ?_⟩; refine ⟨_, s_look rfl, ?_⟩; refine ⟨_, rfl, ?_⟩; (first | refine ⟨_, _, _, .z, ?_⟩ | refine ⟨_, _, _, .s .z, ?_⟩ | refine ⟨_, _, _, .s (.s .z), ?_⟩ | refine ⟨_, _, _, .s (.s (.s .z)), ?_⟩); refine ⟨rfl, ?_⟩; go_frame) | ((with_reducible refine Hp.lds H ?_); refine ⟨rfl, by kernel_rfl, ?_⟩; refine ⟨_, s_look rfl, ?_⟩; refine ⟨_, _, rfl, ?_⟩; (first | refine ⟨_, _, _, .z, ?_⟩ | refine ⟨_, _, _, .s .z, ?_⟩ | refine ⟨_, _, _, .s (.s .z), ?_⟩ | refine ⟨_, _, _, .s (.s (.s .z)), ?_⟩); (first | refine ⟨baC xr xp, rfl, rfl, ?_⟩ | refine ⟨enC e, rfl, rfl, ?_⟩); go_frame) | ((with_reducible refine Hp.sta H ?_); refine ⟨rfl, ?_⟩; refine ⟨_, s_look rfl, ?_⟩; refine ⟨_, rfl, _, rfl, rfl, ?_⟩; (first | refine ⟨_, _, _, .z, ?_⟩ | refine ⟨_, _, _, .s .z, ?_⟩ | refine ⟨_, _, _, .s (.s .z), ?_⟩ | refine ⟨_, _, _, .s (.s (.s .z)), ?_⟩); refine ⟨rfl, rfl, ?_⟩; (clear H; intro w1 H; simp only [List.set] at H); (replace H := H.rot3); go_frame) | ((with_reducible refine Hp.str H ?_); refine ⟨rfl, ?_⟩; refine ⟨_, s_look rfl, ?_⟩; refine ⟨_, _, rfl, _, rfl, rfl, ?_⟩; (first | refine ⟨_, _, _, .z, ?_⟩ | refine ⟨_, _, _, .s .z, ?_⟩ | refine ⟨_, _, _, .s (.s .z), ?_⟩ | refine ⟨_, _, _, .s (.s (.s .z)), ?_⟩); refine ⟨rfl, _, rfl, _, rfl, Nat.le_of_ble_eq_true rfl, ?_⟩; (clear H; intro w1 H; simp only [List.set] at H); go_frame) | ((with_reducible refine Hp.bslI (parts := [_]) H ?_); refine ⟨rfl, rfl, rfl, [.int .i64 _], rfl, rfl, rfl, ?_⟩; (clear H; intro g2 w1 H); go_frame) | ((with_reducible refine Hp.ldrO H ?_); refine ⟨rfl, by kernel_rfl, _, _, rfl, _, hrk, s_Report, ?_⟩; go_frame) | ((with_reducible refine (wnum_any _ _ _ _ _ _ _ _ _ _ (by first | omega | (simp only [List.length_append]; omega)) H).mono ?_); rintro _ w1 ⟨A', c', rfl, HQ⟩; replace H := HQ; clear HQ) | ((with_reducible refine (wbal_any _ _ _ _ _ _ _ _ _ (by first | omega | (simp only [List.length_append]; omega)) H).mono ?_); rintro _ w1 ⟨A', c', rfl, HQ⟩; replace H := HQ; clear HQ) | ((with_reducible refine (went_any _ HSE.out HUE.out _ _ _ _ _ _ _ (by first | omega | (simp only [List.length_append]; omega)) H).mono ?_); rintro _ w1 ⟨A', c', rfl, HQ⟩; replace H := HQ; clear HQ)); go_roundw; (case rel => refine ⟨k + 1, A', c', _, hK, rfl, ?_, ?_, H.del3⟩; (· rw [repsL_snoc rs k hK, HXE.out, HRP.out, HCU.out]; simp only [List.append_assoc]); (· have := HRL.out; simp only [List.length_append] at this ⊢; omega)); (case measure => show rs.length - ((k : Int) + 1).toNat < rs.length - ((k : Int)).toNat; omega)
        have b2 : (st == 2) = false := beq_eq_false_iff_ne.mpr h2
        have HRP : Hid (repL ⟨ix, st, xr, xp, e⟩ = putL 6 ix ++ putL 1 st ++ (putL 6 xr ++ putL 1 xp)) := Lib.hid (by unfold repL; simp [h4, h2])
        have HRL : Hid ((putL 6 ix ++ putL 1 st ++ (putL 6 xr ++ putL 1 xp)).length ≤ 80) := Lib.hid (by rw [← HRP.out]; exact repL_len _)
        clear h4 h2
        go_wp2_with (first | ((with_reducible refine Hp.box H ?_); (first | refine ⟨rfl, mgC _, rfl, ?_⟩); (clear H; intro gm w1 H); (replace H := H.rot3); go_frame) | ((with_reducible refine Hp.allo H ?_); refine ⟨rfl, ?_⟩; refine ⟨_, z_look rfl, ?_⟩; (clear H; intro gx w1 H); go_frame) | ((with_reducible refine Hp.ld H ?_); refine ⟨rfl, ?_⟩; refine ⟨c_look rfl, ?_⟩; refine ⟨_, _, rfl, ?_⟩; (first | refine ⟨_, _, _, .z, ?_⟩ | refine ⟨_, _, _, .s .z, ?_⟩ | refine ⟨_, _, _, .s (.s .z), ?_⟩ | refine ⟨_, _, _, .s (.s (.s .z)), ?_⟩); refine ⟨_, rfl, ?_⟩; go_frame) | ((with_reducible refine Hp.lda H ?_); refine ⟨rfl, by kernel_rfl, ?_⟩; refine ⟨_, s_look rfl, ?_⟩; refine ⟨_, rfl, ?_⟩; (first | refine ⟨_, _, _, .z, ?_⟩ | refine ⟨_, _, _, .s .z, ?_⟩ | refine ⟨_, _, _, .s (.s .z), ?_⟩ | refine ⟨_, _, _, .s (.s (.s .z)), ?_⟩); refine ⟨rfl, ?_⟩; go_frame) | ((with_reducible refine Hp.lds H ?_); refine ⟨rfl, by kernel_rfl, ?_⟩; refine ⟨_, s_look rfl, ?_⟩; refine ⟨_, _, rfl, ?_⟩; (first | refine ⟨_, _, _, .z, ?_⟩ | refine ⟨_, _, _, .s .z, ?_⟩ | refine ⟨_, _, _, .s (.s .z), ?_⟩ | refine ⟨_, _, _, .s (.s (.s .z)), ?_⟩); (first | refine ⟨baC xr xp, rfl, rfl, ?_⟩ | refine ⟨enC e, rfl, rfl, ?_⟩); go_frame) | ((with_reducible refine Hp.sta H ?_); refine ⟨rfl, ?_⟩; refine ⟨_, s_look rfl, ?_⟩; refine ⟨_, rfl, _, rfl, rfl, ?_⟩; (first | refine ⟨_, _, _, .z, ?_⟩ | refine ⟨_, _, _, .s .z, ?_⟩ | refine ⟨_, _, _, .s (.s .z), ?_⟩ | refine ⟨_, _, _, .s (.s (.s .z)), ?_⟩); refine ⟨rfl, rfl, ?_⟩; (clear H; intro w1 H; simp only [List.set] at H); (replace H := H.rot3); go_frame) | ((with_reducible refine Hp.str H ?_); refine ⟨rfl, ?_⟩; refine ⟨_, s_look rfl, ?_⟩; refine ⟨_, _, rfl, _, rfl, rfl, ?_⟩; (first | refine ⟨_, _, _, .z, ?_⟩ | refine ⟨_, _, _, .s .z, ?_⟩ | refine ⟨_, _, _, .s (.s .z), ?_⟩ | refine ⟨_, _, _, .s (.s (.s .z)), ?_⟩); refine ⟨rfl, _, rfl, _, rfl, Nat.le_of_ble_eq_true rfl, ?_⟩; (clear H; intro w1 H; simp only [List.set] at H); go_frame) | ((with_reducible refine Hp.bslI (parts := [_]) H ?_); refine ⟨rfl, rfl, rfl, [.int .i64 _], rfl, rfl, rfl, ?_⟩; (clear H; intro g2 w1 H); go_frame) | ((with_reducible refine Hp.ldrO H ?_); refine ⟨rfl, by kernel_rfl, _, _, rfl, _, hrk, s_Report, ?_⟩; go_frame) | ((with_reducible refine (wnum_any _ _ _ _ _ _ _ _ _ _ (by first | omega | (simp only [List.length_append]; omega)) H).mono ?_); rintro _ w1 ⟨A', c', rfl, HQ⟩; replace H := HQ; clear HQ) | ((with_reducible refine (wbal_any _ _ _ _ _ _ _ _ _ (by first | omega | (simp only [List.length_append]; omega)) H).mono ?_); rintro _ w1 ⟨A', c', rfl, HQ⟩; replace H := HQ; clear HQ) | ((with_reducible refine (went_any _ HSE.out HUE.out _ _ _ _ _ _ _ (by first | omega | (simp only [List.length_append]; omega)) H).mono ?_); rintro _ w1 ⟨A', c', rfl, HQ⟩; replace H := HQ; clear HQ)); go_roundw; (case rel => refine ⟨k + 1, A', c', _, hK, rfl, ?_, ?_, H.del3⟩; (· rw [repsL_snoc rs k hK, HXE.out, HRP.out, HCU.out]; simp only [List.append_assoc]); (· have := HRL.out; simp only [List.length_append] at this ⊢; omega)); (case measure => show rs.length - ((k : Int) + 1).toNat < rs.length - ((k : Int)).toNat; omega)
      · obtain rfl : k = rs.length := by omega
        have hnl : ¬ (rs.length < rn) := by rw [HN1.out]; omega
        have hrk := True.intro
        have HSE := True.intro
        have HUE := True.intro
        go_wp2_with (first | ((with_reducible refine Hp.box H ?_); (first | refine ⟨rfl, mgC _, rfl, ?_⟩); (clear H; intro gm w1 H); (replace H := H.rot3); go_frame) | ((with_reducible refine Hp.allo H ?_); refine ⟨rfl, ?_⟩; refine ⟨_, z_look rfl, ?_⟩; (clear H; intro gx w1 H); go_frame) | ((with_reducible refine Hp.ld H ?_); refine ⟨rfl, ?_⟩; refine ⟨c_look rfl, ?_⟩; refine ⟨_, _, rfl, ?_⟩; (first | refine ⟨_, _, _, .z, ?_⟩ | refine ⟨_, _, _, .s .z, ?_⟩ | refine ⟨_, _, _, .s (.s .z), ?_⟩ | refine ⟨_, _, _, .s (.s (.s .z)), ?_⟩); refine ⟨_, rfl, ?_⟩; go_frame) | ((with_reducible refine Hp.lda H ?_); refine ⟨rfl, by kernel_rfl, ?_⟩; refine ⟨_, s_look rfl, ?_⟩; refine ⟨_, rfl, ?_⟩; (first | refine ⟨_, _, _, .z, ?_⟩ | refine ⟨_, _, _, .s .z, ?_⟩ | refine ⟨_, _, _, .s (.s .z), ?_⟩ | refine ⟨_, _, _, .s (.s (.s .z)), ?_⟩); refine ⟨rfl, ?_⟩; go_frame) | ((with_reducible refine Hp.lds H ?_); refine ⟨rfl, by kernel_rfl, ?_⟩; refine ⟨_, s_look rfl, ?_⟩; refine ⟨_, _, rfl, ?_⟩; (first | refine ⟨_, _, _, .z, ?_⟩ | refine ⟨_, _, _, .s .z, ?_⟩ | refine ⟨_, _, _, .s (.s .z), ?_⟩ | refine ⟨_, _, _, .s (.s (.s .z)), ?_⟩); (first | refine ⟨baC xr xp, rfl, rfl, ?_⟩ | refine ⟨enC e, rfl, rfl, ?_⟩); go_frame) | ((with_reducible refine Hp.sta H ?_); refine ⟨rfl, ?_⟩; refine ⟨_, s_look rfl, ?_⟩; refine ⟨_, rfl, _, rfl, rfl, ?_⟩; (first | refine ⟨_, _, _, .z, ?_⟩ | refine ⟨_, _, _, .s .z, ?_⟩ | refine ⟨_, _, _, .s (.s .z), ?_⟩ | refine ⟨_, _, _, .s (.s (.s .z)), ?_⟩); refine ⟨rfl, rfl, ?_⟩; (clear H; intro w1 H; simp only [List.set] at H); (replace H := H.rot3); go_frame) | ((with_reducible refine Hp.str H ?_); refine ⟨rfl, ?_⟩; refine ⟨_, s_look rfl, ?_⟩; refine ⟨_, _, rfl, _, rfl, rfl, ?_⟩; (first | refine ⟨_, _, _, .z, ?_⟩ | refine ⟨_, _, _, .s .z, ?_⟩ | refine ⟨_, _, _, .s (.s .z), ?_⟩ | refine ⟨_, _, _, .s (.s (.s .z)), ?_⟩); refine ⟨rfl, _, rfl, _, rfl, Nat.le_of_ble_eq_true rfl, ?_⟩; (clear H; intro w1 H; simp only [List.set] at H); go_frame) | ((with_reducible refine Hp.bslI (parts := [_]) H ?_); refine ⟨rfl, rfl, rfl, [.int .i64 _], rfl, rfl, rfl, ?_⟩; (clear H; intro g2 w1 H); go_frame) | ((with_reducible refine Hp.ldrO H ?_); refine ⟨rfl, by kernel_rfl, _, _, rfl, _, hrk, s_Report, ?_⟩; go_frame) | ((with_reducible refine (wnum_any _ _ _ _ _ _ _ _ _ _ (by first | omega | (simp only [List.length_append]; omega)) H).mono ?_); rintro _ w1 ⟨A', c', rfl, HQ⟩; replace H := HQ; clear HQ) | ((with_reducible refine (wbal_any _ _ _ _ _ _ _ _ _ (by first | omega | (simp only [List.length_append]; omega)) H).mono ?_); rintro _ w1 ⟨A', c', rfl, HQ⟩; replace H := HQ; clear HQ) | ((with_reducible refine (went_any _ HSE.out HUE.out _ _ _ _ _ _ _ (by first | omega | (simp only [List.length_append]; omega)) H).mono ?_); rintro _ w1 ⟨A', c', rfl, HQ⟩; replace H := HQ; clear HQ))
        go_end0
        refine ⟨A, c, rfl, ?_⟩
        have e : cur = l0 ++ (putL 1 (rs.length : Int) ++ repsL rs) := by rw [HCU.out, List.take_length, List.append_assoc]
        rw [HF.out, ← e]
        exact H.del3
theorem field_any {cc : Nat} (hc : cc ∈ [115, 111, 114, 98, 105, 122, 99, 110, 101, 108, 107, 109, 121]) (m : Mg) (rs : List Rp) (l : List UInt8) (g : Nat) (A : Option Addr) (c : Nat) (l0 : List UInt8) (w0 w : World) (L : List Item) (hl : l0.length ≤ 10000) (hN : MgN m) (hR : MgR w0 m rs l) (h24 : rs.length ≤ 100) (H : Hp w0 w (wrI g A c l0 :: .bytes A c l0 :: L)) :
    Calls Tryd.prog 32 #[.pointer (some ⟨g, 0, none⟩), .agg (mgC m).toArray, .int .i32 (cc : Int)] w (RetWr w0 g (l0 ++ fieldL cc m rs l) L) := by
  simp only [List.mem_cons, List.not_mem_nil, or_false] at hc
  rcases hc with rfl | rfl | rfl | rfl | rfl | rfl | rfl | rfl | rfl | rfl | rfl | rfl | rfl
  · exact field_115 m rs l g A c l0 w0 w L hl hN hR H
  · exact field_111 m rs l g A c l0 w0 w L hl hN hR H
  · exact field_114 m rs l g A c l0 w0 w L hl hN hR H
  · exact field_98 m rs l g A c l0 w0 w L hl hN hR H
  · exact field_105 m rs l g A c l0 w0 w L hl hN hR H
  · exact field_122 m rs l g A c l0 w0 w L hl hN hR H
  · exact field_99 m rs l g A c l0 w0 w L hl hN hR H
  · exact field_110 m rs l g A c l0 w0 w L hl hN hR H
  · exact field_101 m rs l g A c l0 w0 w L hl hN hR H
  · exact field_108 m rs l g A c l0 w0 w L hl hN hR h24 H
  · exact field_107 m rs l g A c l0 w0 w L hl hN hR H
  · exact field_109 m rs l g A c l0 w0 w L hl hN hR H
  · exact field_121 m rs l g A c l0 w0 w L hl hN hR H
end Go.Proofs.YtajgikjmoeemnaaDoor
