import Derived.Test.YtajgikjmoeemnaaDoorPk3
import Derived.Test.YtajgikjmoeemnaaDoorPk4
import Derived.Test.YtajgikjmoeemnaaDoorPk2
/-
  PLAIN: bodies: what is printed is parsed as it was, and the other way; cut, and with more behind. No program in sight.
-/
namespace Go.Proofs.YtajgikjmoeemnaaDoor
set_option maxRecDepth 100000
set_option linter.unusedVariables false

theorem entL_len {e : En} (hm : mayB e = true) : 1 ≤ (entL e).length ∧ (entL e).length ≤ 52 := by
  rcases may_bd hm with rfl | ⟨hk, h1, h2, h3, h4, h5, h6, h7, h8, h9, h10⟩
  · have : (entL noop).length = 1 := by decide
    omega
  · unfold entL
    rw [if_pos hk, hk, textL_ok (by rw [size_len]; omega), textL_ok (by rw [size_len]; omega), textL_ok (by rw [size_len]; omega)]
    simp only [List.length_append, List.length_cons, size_len, putL_len (fits1 (n := 2) (by omega) (by omega)), putL_len (fits1 h1 (by omega)), putL_len (fits6 (n := e.s) (by omega) (by omega)), putL_len (fits1 (n := e.ok) (by omega) (by omega))]
    omega
end Go.Proofs.YtajgikjmoeemnaaDoor

/-
  THE WALKS OF message's writer: number, text, ballot, entry, who.
-/
namespace Go.Proofs.YtajgikjmoeemnaaDoor
set_option maxRecDepth 100000
open Go.RowKit
set_option linter.unusedVariables false
set_option linter.unusedSimpArgs false
section
variable {a : Act} {w0 w : World} {Q : Exit → Act → World → Prop} {L : List Item} {ops : Array Oper} {rest : List Oper} {d : Option Tmp} {tt : TypeId} {ps : String} {af : Array Edge} {gd : Option (Nat × Bool)} {x s : Operand}
end
/-- who says something, or hears it -/
def whoN (i : Int) : Int := if i < 0 then 127 - i else i
theorem bytesL_len (e : En) : (bytesL e).length ≤ 52 := by
  unfold bytesL
  split
  · rename_i h
    exact (entL_len h).2
  · simp
end Go.Proofs.YtajgikjmoeemnaaDoor

/-
  THE WALK OF (*message.writer).field, letter by letter. (Printed by wip/bin/genmsgt.py.)
-/
namespace Go.Proofs.YtajgikjmoeemnaaDoor
set_option maxRecDepth 100000
open Go.RowKit
set_option linter.unusedVariables false
set_option linter.unusedSimpArgs false
def repL (x : Rp) : List UInt8 := (putL 6 x.ix ++ putL 1 x.st) ++ ((if x.st = 4 then [] else putL 6 x.r ++ putL 1 x.p) ++ (if x.st = 2 then bytesL x.e else []))
def repsL (rs : List Rp) : List UInt8 := (rs.map repL).flatten
def fieldL (c : Nat) (m : Mg) (rs : List Rp) (l : List UInt8) : List UInt8 :=
  if c = 115 then putL 6 m.sq else if c = 111 then putL 1 m.ok ++ (textL m.o0.data.toList ++ (textL m.o1.data.toList ++ textL m.o2.data.toList)) else if c = 114 then putL 2 m.re ++ (putL 1 (if m.rf then 1 else 0) ++ textL m.rv.data.toList)
  else if c = 98 then putL 6 m.br ++ putL 1 m.bp else if c = 105 then putL 6 m.ix else if c = 122 then putL 6 m.ix else if c = 99 then putL 6 m.cm else if c = 110 then putL 6 m.nc
  else if c = 101 then bytesL m.e else if c = 108 then putL 1 (rs.length : Int) ++ repsL rs else if c = 107 then putL 1 m.ck else if c = 109 then putL 1 m.ct
  else textL l
theorem MgN.uk {m : Mg} (h : MgN m) : 0 ≤ m.k ∧ m.k < 256 := h.1
theorem MgN.uo {m : Mg} (h : MgN m) : 0 ≤ m.ok ∧ m.ok < 256 := h.2.2.2.2.2.2.2.2.2.2.2.2.2.2.2.1
theorem MgN.se {m : Mg} (h : MgN m) : Sm m.e := h.2.2.2.2.2.2.2.2.2.2.2.1
theorem MgN.s0 {m : Mg} (h : MgN m) : m.o0.size ≤ maxLen := h.2.2.2.2.2.2.2.2.2.2.2.2.2.2.2.2.1
theorem MgN.s1 {m : Mg} (h : MgN m) : m.o1.size ≤ maxLen := h.2.2.2.2.2.2.2.2.2.2.2.2.2.2.2.2.2.1
theorem MgN.s2 {m : Mg} (h : MgN m) : m.o2.size ≤ maxLen := h.2.2.2.2.2.2.2.2.2.2.2.2.2.2.2.2.2.2.1
end Go.Proofs.YtajgikjmoeemnaaDoor

/-
  THE WALKS OF the reference's number, text, who, ballot, operation.
-/
namespace Go.Proofs.YtajgikjmoeemnaaDoor
set_option maxRecDepth 100000
open Go.RowKit
set_option linter.unusedVariables false
set_option linter.unusedSimpArgs false
section
variable {a : Act} {w0 w : World} {Q : Exit → Act → World → Prop} {L L0 : List Item} {ops : List Oper} {fuel : Nat} {listed : Array Bool} {md : Region.Mode} {oi : Oper} {K : Act → World → Prop} {x s : Operand}
/-- a byte as a slice -/
theorem hw_bslB1 {u : UInt8} (ho : oi.op = .buildSlice 32 1 #[(0, x)]) (hx : a.eval x = .int .u8 (u.toNat : Int)) (H : Hp w0 w L) (h : ∀ g w', Hp w0 w' (.bytes (some ⟨g, 0, none⟩) 1 [u] :: L) → K (a.put oi.dst (.slice (some ⟨g, 0, none⟩) 1 1)) w') : oi.wp Tryd.prog a w K Q := by
  cases hi : Tryd.prog.info? 5 with
  | none => have := u8_i; rw [hi] at this; cases this
  | some i =>
    have hu := u8_i
    rw [hi] at hu
    simp only [Option.map_some, Option.some.injEq, Prod.mk.injEq] at hu
    have hr := run_bsl (P := Tryd.prog) w u8_slice hi hu.1 hu.2 1 (by omega) (by omega) #[(0, .int .u8 (u.toNat : Int))] (bvs [u]) (by
      have hf := fill_nums (bvs [u]) 0 ((Array.range (1 * 1)).map (fun k => (Value.int .u8 0).cells[k % (Value.int .u8 0).cells.size]!)).toList (List.all_eq_true.2 (bvs_one [u])) (by simp [bvs_length])
      rw [List.take_zero, List.nil_append] at hf
      rw [show (#[(0, Value.int .u8 (u.toNat : Int))] : Array (Nat × Value)).toList = nums 0 (bvs [u]) from rfl, ← hf])
    have hown : Own (w.alloc (.cells (bvs [u]).toArray 5)) w0.heap.size (some ⟨w.heap.size, 0, none⟩) 1 [u] := own_lit w _ [u] _ rfl H.size (by unfold maxLen; simp) 1 rfl
    have H1 : Hp w0 (w.alloc (.cells (bvs [u]).toArray 5)) (.bytes (some ⟨w.heap.size, 0, none⟩) 1 [u] :: L) :=
      H.new (H.below.alloc H.size _) (by simp) (fun k hk => Below.heap_alloc w _ k hk) hown (fun k hk => by simp [Item.foot] at hk; subst hk; simp)
    have he : (execOp a.eval oi).run Tryd.prog w = .ok (.value (.slice (some ⟨w.heap.size, 0, none⟩) 1 1)) (w.alloc (.cells (bvs [u]).toArray 5)) := by
      simp [execOp, ho, hx, hr]
    exact hw_turn he (h _ _ H1)
theorem hw_appB {A A2 : Option Addr} {c c2 i : Nat} {l news : List UInt8} {n m : Nat} (ho : oi.op = .call { callee := .builtin .append, args := #[s, x], argTypes := #[32, 32] }) (hs : a.eval s = .slice A n c) (hx : a.eval x = .slice A2 m c2) (hn : n = l.length) (hm : m = news.length) (H : Hp w0 w L) (hL : L[i]? = some (.bytes A c l)) (hr : Rd w A2 news) (hlen : l.length + news.length ≤ 140737488355328)
    (h : ∀ A' c' w', Hp w0 w' (L.set i (.bytes A' c' (l ++ news))) → K (a.put oi.dst (.slice A' (l ++ news).length c')) w') : oi.wp Tryd.prog a w K Q := by
  subst hn hm
  obtain ⟨A', c', w', hrun, hH⟩ := H.appBytes oi.type i A c l hL A2 c2 news hr hlen
  exact hw_turn (ex_append ho hs hx hrun) (h _ _ _ hH)
end
/-! number -/
def NRel (w : World) (W N : Nat) (va vo vi : Value) (wr : World) : Prop :=
  ∃ (k q : Nat) (A : Option Addr) (c : Nat) (L : List UInt8), k ≤ W ∧ q ≤ N ∧ q = N / 256 ^ k ∧ L = leB k N ∧ va = .int .i64 q ∧ vo = .slice A L.length c ∧ vi = .int .i64 k ∧ Hp w wr [.bytes A c L]
set_option maxHeartbeats 2000000 in
theorem rnum_any (W N : Nat) (w : World) (hW : W ≤ 6) (hN : N < 9223372036854775808) : Calls Tryd.prog 24 #[.int .i64 N, .int .i64 W] w (RetB w (leB W N)) := by
  have H := (Hp.nil w).nilOwn
  have HBV := True.intro
  have HLk := True.intro
  go_enter Tryd.func24, Tryd.ntmps24
  go_wp2_with (first | (fail))
  have hat : NRel w W N (.int .i64 N) (.slice none 0 0) (.int .i64 (0 : Nat)) w := ⟨0, N, none, 0, [], Nat.zero_le _, Nat.le_refl _, by simp, rfl, rfl, rfl, rfl, H⟩
  clear H HBV HLk
  go_loopw [0, 5, 6] (fun a v i wr => NRel w W N a v i wr) (fun _ _ i _ => W - (intOf i).toNat)
  case atStart => exact hat
  case round =>
    clear hat
    obtain ⟨k, q, A, c, L, hk, hq, hqe, hL, rfl, rfl, rfl, H⟩ := hrel
    have HQE := Lib.hid hqe
    have HL := Lib.hid hL
    have HLk : Hid (L.length = k) := Lib.hid (by rw [hL, leB_length])
    clear hqe hL
    by_cases hlt : k < W
    · have hK := hlt
      have t1 : ((q : Int).tmod 256) = ((q % 256 : Nat) : Int) := by rw [Int.tmod_eq_emod_of_nonneg (by omega)]; omega
      have t2 : ((q : Int).tdiv 256) = ((q / 256 : Nat) : Int) := by rw [Int.tdiv_eq_ediv_of_nonneg (by omega)]; omega
      have t3 : IntKind.u8.wrap ((q % 256 : Nat) : Int) = ((q % 256 : Nat) : Int) := by unfold IntKind.wrap; simp [IntKind.signed, IntKind.bits]
      have t4 : IntKind.i64.wrap ((q % 256 : Nat) : Int) = ((q % 256 : Nat) : Int) := IntWalk.i64_in _ (by omega)
      have t5 : IntKind.i64.wrap ((q / 256 : Nat) : Int) = ((q / 256 : Nat) : Int) := IntWalk.i64_in _ (by omega)
      have HBV : Hid ([Value.int .u8 ((q % 256 : Nat) : Int)] = bvs [UInt8.ofNat q]) := Lib.hid (by show _ = [Value.int .u8 ((UInt8.ofNat q).toNat : Int)]; rw [ofNat_toNat])
      go_wp2_with (first | ((with_reducible refine Hp.bslB (parts := [_]) H ?_); refine ⟨rfl, rfl, rfl, _, rfl, [UInt8.ofNat q], HBV.out, rfl, ?_⟩; (clear H; intro g1 w1 H); go_frame) | (at_builtin; refine H.wlAppendBytes rfl _ _ rfl 1 _ _ _ _ (by rfl) rfl rfl _ _ _ _ (by rfl) rfl (H.o 0 rfl).rd (by rw [HLk.out]; simp; omega) ?_; (clear H; intro A1 c1 w1 H); simp only [List.set_cons_succ, List.set_cons_zero] at H))
      go_roundw
      case rel =>
        refine ⟨k + 1, q / 256, A1, c1, L ++ [UInt8.ofNat q], hK, ?_, ?_, ?_, rfl, ?_, rfl, H.tail⟩
        · exact Nat.le_trans (Nat.div_le_self _ _) hq
        · rw [HQE.out, Nat.div_div_eq_div_mul, Nat.pow_succ]
        · rw [leB_succ, ← HL.out, ← HQE.out]
        · rw [List.length_append]; rfl
      case measure => show W - ((k : Int) + 1).toNat < W - ((k : Int)).toNat; omega
    · obtain rfl : k = W := by omega
      have HBV := True.intro
      have hL := HL.out
      subst hL
      go_wp2_with (first | (fail))
      go_ret
      exact ⟨A, c, rfl, H.o 0 rfl, H.below⟩
theorem rnum6 {n : Int} (h0 : 0 ≤ n) (h1 : n < 281474976710656) (w : World) : Calls Tryd.prog 24 #[.int .i64 n, .int .i64 6] w (RetB w (putL 6 n)) := by
  rw [putL_six h0 h1]
  have := rnum_any 6 n.toNat w (by omega) (by omega)
  rwa [Int.toNat_of_nonneg h0] at this
theorem rnum2 {n : Int} (h0 : 0 ≤ n) (h1 : n < 65536) (w : World) : Calls Tryd.prog 24 #[.int .i64 n, .int .i64 2] w (RetB w (putL 2 n)) := by
  rw [putL_two h0 h1]
  have := rnum_any 2 n.toNat w (by omega) (by omega)
  rwa [Int.toNat_of_nonneg h0] at this
set_option maxHeartbeats 2000000 in
theorem rtxt_any (s : ByteArray) (w : World) (hs : s.size ≤ 255) : Calls Tryd.prog 27 #[.string s] w (RetB w (textL s.data.toList)) := by
  have H := Hp.nil w
  have hl : s.data.toList.length = s.size := by rw [Array.length_toList]; rfl
  have hT : textL s.data.toList = [UInt8.ofNat s.size] ++ s.data.toList := by rw [textL_ok (by omega), hl]; rfl
  have t3 : IntKind.u8.wrap (s.size : Int) = (s.size : Int) := by unfold IntKind.wrap; simp [IntKind.signed, IntKind.bits]; omega
  have HBV : Hid ([Value.int .u8 (s.size : Int)] = bvs [UInt8.ofNat s.size]) := Lib.hid (by show _ = [Value.int .u8 ((UInt8.ofNat s.size).toNat : Int)]; rw [ofNat_toNat, Nat.mod_eq_of_lt (by omega)])
  rw [hT]
  clear hT
  go_enter Tryd.func27, Tryd.ntmps27
  go_wp2_with (first | ((with_reducible refine Hp.bslB (parts := [_]) H ?_); refine ⟨rfl, rfl, rfl, _, rfl, [UInt8.ofNat s.size], HBV.out, rfl, ?_⟩; (clear H; intro g1 w1 H); go_frame) | (at_builtin; refine wpList_append_str _ rfl _ _ rfl w.heap.size _ _ _ _ rfl rfl (H.o 0 rfl) s rfl (by simp only [List.length_cons, List.length_nil]; omega) H.size ?_; (intro A1 c1 w2 hown hb)))
  go_ret
  exact ⟨A1, c1, rfl, hown, H.below.trans hb⟩
set_option maxHeartbeats 1000000 in
theorem rwho_any (i : Int) (w : World) (h0 : -100 ≤ i) (h1 : i < 100) : Calls Tryd.prog 22 #[.int .i64 i] w (RetV w (.int .u8 (whoN i))) := by
  have H := Hp.nil w
  unfold whoN
  by_cases h : i < 0
  · have hw : IntKind.i64.wrap (127 - i) = 127 - i := IntWalk.i64_in _ (by omega)
    have hw2 : IntKind.u8.wrap (127 - i) = 127 - i := by unfold IntKind.wrap; simp [IntKind.signed, IntKind.bits]; omega
    have d : decide (i < 0) = true := decide_eq_true h
    rw [if_pos h]
    clear h
    go_enter Tryd.func22, Tryd.ntmps22
    go_wp2_with (first | (fail))
    go_ret
    exact ⟨rfl, H.below⟩
  · have hw2 : IntKind.u8.wrap i = i := by unfold IntKind.wrap; simp [IntKind.signed, IntKind.bits]; omega
    have d : decide (i < 0) = false := decide_eq_false h
    rw [if_neg h]
    clear h
    go_enter Tryd.func22, Tryd.ntmps22
    go_wp2_with (first | (fail))
    go_ret
    exact ⟨rfl, H.below⟩
theorem cf_num (args : Array Value) (w : World) : (callFunc 24 args).run Tryd.prog w = .ok (.enter 24 args) w := by kernel_rfl
theorem cf_txt (args : Array Value) (w : World) : (callFunc 27 args).run Tryd.prog w = .ok (.enter 27 args) w := by kernel_rfl
set_option maxHeartbeats 2000000 in
theorem rbal20_any (r p : Int) (w : World) (h0 : 0 ≤ r) (h1 : r < 281474976710656) (h2 : 0 ≤ p) (h3 : p < 256) : Calls Tryd.prog 23 #[.agg (baC r p).toArray] w (RetB w (putL 6 r ++ putL 1 p)) := by
  have H := Hp.nil w
  have hw2 : IntKind.u8.wrap p = p := by unfold IntKind.wrap; simp [IntKind.signed, IntKind.bits]; omega
  have hp : putL 1 p = [UInt8.ofNat p.toNat] := by rw [putL_one h2 h3]; simp [leB]
  have HU : Hid (p = ((UInt8.ofNat p.toNat).toNat : Int)) := Lib.hid (by rw [ofNat_toNat]; omega)
  have HN := Lib.hid (fun w => rnum6 h0 h1 w)
  have m6 := putL_length6 6 r
  rw [hp]
  clear hp h0 h1 h2 h3
  go_enter Tryd.func23, Tryd.ntmps23
  go_wp2_with (first | ((with_reducible refine Hp.box H ?_); (first | refine ⟨rfl, baC r p, rfl, ?_⟩ | refine ⟨rfl, opC k s0 s1 s2, rfl, ?_⟩); (clear H; intro g1 w1 H); go_frame))
  refine hw_start [] [_] H (by kernel_rfl) (fun w1 H => ?_); have hS : HpW w _ w1 := ⟨[], H⟩; simp only [List.nil_append] at H
  (refine hw_take hS 0 (by decide +kernel) (by decide +kernel) (by decide +kernel) ⟨_, rfl, rfl, ?_, ?_, fun _ _ _ h => h, ?_⟩; rotate_left; (intro w _; go_simp; try with_reducible rfl); go_frame); (refine hw_take hS 1 (by decide +kernel) (by decide +kernel) (by decide +kernel) ⟨_, rfl, rfl, _, fun w h => ex_load rfl rfl (hw_ld (by kernel_rfl) (.z) rfl w h), fun _ _ _ h => h, ?_⟩; go_frame); (refine hw_take hS 3 (by decide +kernel) (by decide +kernel) (by decide +kernel) ⟨_, rfl, rfl, ?_, ?_, fun _ _ _ h => h, ?_⟩; rotate_left; (intro w _; go_simp; try with_reducible rfl); go_frame); (refine hw_take hS 4 (by decide +kernel) (by decide +kernel) (by decide +kernel) ⟨_, rfl, rfl, _, fun w h => ex_load rfl rfl (hw_ld (by kernel_rfl) (.z) rfl w h), fun _ _ _ h => h, ?_⟩; go_frame); (refine hw_take hS 5 (by decide +kernel) (by decide +kernel) (by decide +kernel) ⟨_, rfl, rfl, ?_, ?_, fun _ _ _ h => h, ?_⟩; rotate_left; (intro w _; go_simp; try with_reducible rfl); go_frame)
  clear hS
  (refine hw_two 2 6 (by decide +kernel) ⟨_, rfl, rfl, fun K hK => ?_⟩ ⟨_, rfl, rfl, fun K hK => ?_⟩)
  · refine hw_callB (vs := [_, _]) (HN.out _) cf_num rfl rfl rfl H (fun A1 c1 w1 H => ?_)
    refine hK _ _ ⟨[_], H⟩ ?_; clear hK K; go_frame; have hS : HpW _ _ _ := ⟨[_], H⟩
    clear hS
    (refine hw_one 6 (by decide +kernel) ⟨_, rfl, rfl, fun K hK => ?_⟩)
    refine hw_bslB1 (u := UInt8.ofNat p.toNat) rfl (congrArg (Value.int .u8) HU.out) H (fun g2 w1 H => ?_)
    refine hK _ _ ⟨[_, _], H⟩ ?_; clear hK K; go_frame; have hS : HpW _ _ _ := ⟨[_, _], H⟩
    clear hS
    (refine hw_one 7 (by decide +kernel) ⟨_, rfl, rfl, fun K hK => ?_⟩)
    refine hw_appB (i := 1) rfl rfl rfl rfl rfl H rfl (H.o 0 rfl).rd (by simp only [List.length_cons, List.length_nil]; omega) (fun A2 c2 w1 H => ?_)
    refine hK _ _ ⟨[_, _], H⟩ ?_; clear hK K; go_frame; have hS : HpW _ _ _ := ⟨[_, _], H⟩
    (refine hw_take hS 8 (by decide +kernel) (by decide +kernel) (by decide +kernel) ⟨_, rfl, rfl, ?_, ?_, fun _ _ _ h => h, ?_⟩; rotate_left; (intro w _; go_simp; try with_reducible rfl); go_frame)
    refine wpAnyH_done (by kernel_rfl) ?_ _
    clear hS
    go_wp2_with (first | (fail))
    go_ret
    exact retB_mk (by simp) (H.o 1 rfl) H.below
  · refine hw_bslB1 (u := UInt8.ofNat p.toNat) rfl (congrArg (Value.int .u8) HU.out) H (fun g2 w1 H => ?_)
    refine hK _ _ ⟨[_], H⟩ ?_; clear hK K; go_frame; have hS : HpW _ _ _ := ⟨[_], H⟩
    clear hS
    (refine hw_one 2 (by decide +kernel) ⟨_, rfl, rfl, fun K hK => ?_⟩)
    refine hw_callB (vs := [_, _]) (HN.out _) cf_num rfl rfl rfl H (fun A1 c1 w1 H => ?_)
    refine hK _ _ ⟨[_, _], H⟩ ?_; clear hK K; go_frame; have hS : HpW _ _ _ := ⟨[_, _], H⟩
    clear hS
    (refine hw_one 7 (by decide +kernel) ⟨_, rfl, rfl, fun K hK => ?_⟩)
    refine hw_appB (i := 0) rfl rfl rfl rfl rfl H rfl (H.o 1 rfl).rd (by simp only [List.length_cons, List.length_nil]; omega) (fun A2 c2 w1 H => ?_)
    refine hK _ _ ⟨[_, _], H⟩ ?_; clear hK K; go_frame; have hS : HpW _ _ _ := ⟨[_, _], H⟩
    (refine hw_take hS 8 (by decide +kernel) (by decide +kernel) (by decide +kernel) ⟨_, rfl, rfl, ?_, ?_, fun _ _ _ h => h, ?_⟩; rotate_left; (intro w _; go_simp; try with_reducible rfl); go_frame)
    refine wpAnyH_done (by kernel_rfl) ?_ _
    clear hS
    go_wp2_with (first | (fail))
    go_ret
    exact retB_mk (by simp) (H.o 0 rfl) H.below
set_option maxHeartbeats 4000000 in
theorem rop_any (k : Int) (s0 s1 s2 : ByteArray) (w : World) (h0 : 0 ≤ k) (h1 : k < 256) (z0 : s0.size ≤ 255) (z1 : s1.size ≤ 255) (z2 : s2.size ≤ 255) :
    Calls Tryd.prog 26 #[.agg (opC k s0 s1 s2).toArray] w (RetB w (putL 1 k ++ (textL s0.data.toList ++ (textL s1.data.toList ++ textL s2.data.toList)))) := by
  have H := Hp.nil w
  have hp : putL 1 k = [UInt8.ofNat k.toNat] := by rw [putL_one h0 h1]; simp [leB]
  have HU : Hid (k = ((UInt8.ofNat k.toNat).toNat : Int)) := Lib.hid (by rw [ofNat_toNat]; omega)
  have HT0 := Lib.hid (fun w => rtxt_any s0 w z0)
  have HT1 := Lib.hid (fun w => rtxt_any s1 w z1)
  have HT2 := Lib.hid (fun w => rtxt_any s2 w z2)
  have m0 := textL_length_le s0.data.toList
  have m1 := textL_length_le s1.data.toList
  have m2 := textL_length_le s2.data.toList
  rw [hp]
  clear hp h0 h1
  go_enter Tryd.func26, Tryd.ntmps26
  go_wp2_with (first | ((with_reducible refine Hp.box H ?_); (first | refine ⟨rfl, baC r p, rfl, ?_⟩ | refine ⟨rfl, opC k s0 s1 s2, rfl, ?_⟩); (clear H; intro g1 w1 H); go_frame))
  refine hw_start [] [_] H (by kernel_rfl) (fun w1 H => ?_); have hS : HpW w _ w1 := ⟨[], H⟩; simp only [List.nil_append] at H
  (refine hw_take hS 0 (by decide +kernel) (by decide +kernel) (by decide +kernel) ⟨_, rfl, rfl, ?_, ?_, fun _ _ _ h => h, ?_⟩; rotate_left; (intro w _; go_simp; try with_reducible rfl); go_frame); (refine hw_take hS 1 (by decide +kernel) (by decide +kernel) (by decide +kernel) ⟨_, rfl, rfl, _, fun w h => ex_load rfl rfl (hw_ld (by kernel_rfl) (.z) rfl w h), fun _ _ _ h => h, ?_⟩; go_frame); (refine hw_take hS 3 (by decide +kernel) (by decide +kernel) (by decide +kernel) ⟨_, rfl, rfl, ?_, ?_, fun _ _ _ h => h, ?_⟩; rotate_left; (intro w _; go_simp; try with_reducible rfl); go_frame); (refine hw_take hS 4 (by decide +kernel) (by decide +kernel) (by decide +kernel) ⟨_, rfl, rfl, _, fun w h => ex_load rfl rfl (hw_ld (by kernel_rfl) (.z) rfl w h), fun _ _ _ h => h, ?_⟩; go_frame)
  clear hS
  (refine hw_two 2 5 (by decide +kernel) ⟨_, rfl, rfl, fun K hK => ?_⟩ ⟨_, rfl, rfl, fun K hK => ?_⟩)
  · refine hw_bslB1 (u := UInt8.ofNat k.toNat) rfl (congrArg (Value.int .u8) HU.out) H (fun g2 w1 H => ?_)
    refine hK _ _ ⟨[_], H⟩ ?_; clear hK K; go_frame; have hS : HpW _ _ _ := ⟨[_], H⟩
    clear hS
    (refine hw_one 5 (by decide +kernel) ⟨_, rfl, rfl, fun K hK => ?_⟩)
    refine hw_callB (vs := [_]) (HT0.out _) cf_txt rfl rfl rfl H (fun A1 c1 w1 H => ?_)
    refine hK _ _ ⟨[_, _], H⟩ ?_; clear hK K; go_frame; have hS : HpW _ _ _ := ⟨[_, _], H⟩
    clear hS
    (refine hw_one 6 (by decide +kernel) ⟨_, rfl, rfl, fun K hK => ?_⟩)
    refine hw_appB (i := 1) rfl rfl rfl rfl rfl H rfl (H.o 0 rfl).rd (by simp only [List.length_cons, List.length_nil]; omega) (fun A2 c2 w1 H => ?_)
    refine hK _ _ ⟨[_, _], H⟩ ?_; clear hK K; go_frame; have hS : HpW _ _ _ := ⟨[_, _], H⟩
    (refine hw_take hS 7 (by decide +kernel) (by decide +kernel) (by decide +kernel) ⟨_, rfl, rfl, ?_, ?_, fun _ _ _ h => h, ?_⟩; rotate_left; (intro w _; go_simp; try with_reducible rfl); go_frame)
    refine wpAnyH_done (by kernel_rfl) ?_ _
    clear hS
    replace H := H.tail
    go_wp2_with (first | ((with_reducible refine Hp.ld H ?_); refine ⟨rfl, ?_⟩; refine ⟨c_look rfl, ?_⟩; refine ⟨_, _, rfl, ?_⟩; ((repeat ((fail_if_success refine ⟨_, _, _, .z, ?_⟩); refine hs ?_)); refine ⟨_, _, _, .z, ?_⟩); refine ⟨_, rfl, ?_⟩; go_frame) | ((first | (with_reducible refine (HT1.out _).mono ?_) | (with_reducible refine (HT2.out _).mono ?_)); rintro _ w1 ⟨A1, c1, rfl, hown, hb⟩; replace H := H.callOwn hb hown; clear hb hown) | (at_builtin; refine H.wlAppendBytes rfl _ _ rfl 1 _ _ _ _ (by rfl) rfl (by simp only [List.length_append, List.length_cons, List.length_nil]; first | done | omega) _ _ _ _ (by rfl) rfl (H.o 0 rfl).rd (by simp only [List.length_append, List.length_cons, List.length_nil]; omega) ?_; (clear H; intro A1 c1 w1 H); simp only [List.set_cons_succ, List.set_cons_zero] at H) | (at_builtin; refine H.wlAppendBytes rfl _ _ rfl 2 _ _ _ _ (by rfl) rfl (by simp only [List.length_append, List.length_cons, List.length_nil]; first | done | omega) _ _ _ _ (by rfl) rfl (H.o 0 rfl).rd (by simp only [List.length_append, List.length_cons, List.length_nil]; omega) ?_; (clear H; intro A1 c1 w1 H); simp only [List.set_cons_succ, List.set_cons_zero] at H))
    go_ret
    refine retB_mk (by simp) (l := _) ?_ H.below
    simpa using H.o 2 rfl
  · refine hw_callB (vs := [_]) (HT0.out _) cf_txt rfl rfl rfl H (fun A1 c1 w1 H => ?_)
    refine hK _ _ ⟨[_], H⟩ ?_; clear hK K; go_frame; have hS : HpW _ _ _ := ⟨[_], H⟩
    clear hS
    (refine hw_one 2 (by decide +kernel) ⟨_, rfl, rfl, fun K hK => ?_⟩)
    refine hw_bslB1 (u := UInt8.ofNat k.toNat) rfl (congrArg (Value.int .u8) HU.out) H (fun g2 w1 H => ?_)
    refine hK _ _ ⟨[_, _], H⟩ ?_; clear hK K; go_frame; have hS : HpW _ _ _ := ⟨[_, _], H⟩
    clear hS
    (refine hw_one 6 (by decide +kernel) ⟨_, rfl, rfl, fun K hK => ?_⟩)
    refine hw_appB (i := 0) rfl rfl rfl rfl rfl H rfl (H.o 1 rfl).rd (by simp only [List.length_cons, List.length_nil]; omega) (fun A2 c2 w1 H => ?_)
    refine hK _ _ ⟨[_, _], H⟩ ?_; clear hK K; go_frame; have hS : HpW _ _ _ := ⟨[_, _], H⟩
    (refine hw_take hS 7 (by decide +kernel) (by decide +kernel) (by decide +kernel) ⟨_, rfl, rfl, ?_, ?_, fun _ _ _ h => h, ?_⟩; rotate_left; (intro w _; go_simp; try with_reducible rfl); go_frame)
    refine wpAnyH_done (by kernel_rfl) ?_ _
    clear hS
    replace H := H.rot2.tail
    go_wp2_with (first | ((with_reducible refine Hp.ld H ?_); refine ⟨rfl, ?_⟩; refine ⟨c_look rfl, ?_⟩; refine ⟨_, _, rfl, ?_⟩; ((repeat ((fail_if_success refine ⟨_, _, _, .z, ?_⟩); refine hs ?_)); refine ⟨_, _, _, .z, ?_⟩); refine ⟨_, rfl, ?_⟩; go_frame) | ((first | (with_reducible refine (HT1.out _).mono ?_) | (with_reducible refine (HT2.out _).mono ?_)); rintro _ w1 ⟨A1, c1, rfl, hown, hb⟩; replace H := H.callOwn hb hown; clear hb hown) | (at_builtin; refine H.wlAppendBytes rfl _ _ rfl 1 _ _ _ _ (by rfl) rfl (by simp only [List.length_append, List.length_cons, List.length_nil]; first | done | omega) _ _ _ _ (by rfl) rfl (H.o 0 rfl).rd (by simp only [List.length_append, List.length_cons, List.length_nil]; omega) ?_; (clear H; intro A1 c1 w1 H); simp only [List.set_cons_succ, List.set_cons_zero] at H) | (at_builtin; refine H.wlAppendBytes rfl _ _ rfl 2 _ _ _ _ (by rfl) rfl (by simp only [List.length_append, List.length_cons, List.length_nil]; first | done | omega) _ _ _ _ (by rfl) rfl (H.o 0 rfl).rd (by simp only [List.length_append, List.length_cons, List.length_nil]; omega) ?_; (clear H; intro A1 c1 w1 H); simp only [List.set_cons_succ, List.set_cons_zero] at H))
    go_ret
    refine retB_mk (by simp) (l := _) ?_ H.below
    simpa using H.o 2 rfl
end Go.Proofs.YtajgikjmoeemnaaDoor

/-
  THE WALK OF (*message.writer).field: reports; any letter.
-/
namespace Go.Proofs.YtajgikjmoeemnaaDoor
set_option maxRecDepth 100000
open Go.RowKit
set_option linter.unusedVariables false
set_option linter.unusedSimpArgs false
theorem repL_len (x : Rp) : (repL x).length ≤ 80 := by
  unfold repL
  have m0 := putL_length6 6 x.ix
  have m1 := putL_length6 1 x.st
  have m2 := putL_length6 6 x.r
  have m3 := putL_length6 1 x.p
  have m4 := bytesL_len x.e
  split <;> split <;> simp only [List.length_append, List.length_nil] <;> omega
theorem repsL_snoc (rs : List Rp) (k : Nat) (h : k < rs.length) : repsL (rs.take (k + 1)) = repsL (rs.take k) ++ repL rs[k] := by
  unfold repsL
  rw [List.take_succ_eq_append_getElem h, List.map_append, List.flatten_append, List.map_cons, List.map_nil, List.flatten_cons, List.flatten_nil, List.append_nil]
end Go.Proofs.YtajgikjmoeemnaaDoor
