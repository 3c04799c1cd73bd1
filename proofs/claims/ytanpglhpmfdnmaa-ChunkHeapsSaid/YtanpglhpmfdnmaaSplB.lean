/-
  chunk.Split: the walk.
-/
import Derived.Shelf.Abstract
import Derived.Test.YtanpglhpmfdnmaaSplA
import Derived.Test.YtanpglhpmfdnmaaHeapF
namespace Go.Proofs.Ytanpglhpmfdnmaa
open Go.RowKit Go.Shelf
attribute [local go_sem] Oper.semAt_some
set_option linter.unusedVariables false
set_option linter.unusedSimpArgs false
/-- new lists of bytes, a number -/
def RetCh (w : World) (ls : List (List UInt8)) (k : Int) (e : Ending) (w' : World) : Prop := ∃ A c chs, e = .returned (.tuple #[.slice A chs.length c, .int .i64 k]) ∧ chs.map (·.l) = ls ∧ Hp w w' (.rows 22 1 chC A c chs :: chs.map Ch.item)
theorem ll_u : Try.prog.underlying 61 = some (.slice 22) := Try.underlying61
theorem ll_info : (Try.prog.info? 22).map (fun i => (i.zero, i.size, i.bytes)) = some (some (.slice none 0 0), 1, 24) := by kernel_rfl
theorem ch_one (x : Ch) : ∀ u ∈ chC x, u.oneCell' = true := by
  intro u hu
  simp only [chC, List.mem_singleton] at hu
  subst hu
  rfl
theorem hS0 {w0 w : World} {L : List Item} (H : Hp w0 w L) : HpW w0 [] w := ⟨L, by rw [List.append_nil]; exact H⟩
theorem cf_sclone (args : Array Value) (w : World) : (callFunc 41 args).run Try.prog w = .ok (.enter 41 args) w := by kernel_rfl
/-- a slice of one cell -/
theorem hw_bslc {P : Program} {a : Act} {w0 w : World} {Q : Exit → Act → World → Prop} {L : List Item} {t e : TypeId} {x : Operand} {oi : Oper} {K : Act → World → Prop} {v : Value} (ho : oi.op = .buildSlice t 1 #[(0, x)]) (ht : P.underlying t = some (.slice e)) (hi : (P.info? e).map (fun i => (i.zero.isSome, i.size)) = some (true, 1)) (hx : a.eval x = v) (h1 : v.oneCell' = true) (H : Hp w0 w L)
    (h : ∀ g w', Hp w0 w' (.blk g e [v] :: L) → K (a.put oi.dst (.slice (some ⟨g, 0, none⟩) 1 1)) w') : oi.wp P a w K Q := by
  cases hq : P.info? e with
  | none => rw [hq] at hi; cases hi
  | some i =>
    rw [hq] at hi
    simp only [Option.map_some, Option.some.injEq, Prod.mk.injEq] at hi
    obtain ⟨z, hz⟩ := Option.isSome_iff_exists.1 hi.1
    have hr := run_bsl (P := P) w ht hq hz hi.2 1 (by omega) (by omega) #[(0, v)] [v] (by
      have hf := fill_nums [v] 0 ((Array.range (1 * 1)).map (fun k => z.cells[k % z.cells.size]!)).toList (by simpa using h1) (by simp)
      rw [List.take_zero, List.nil_append] at hf
      rw [← hf]
      rfl)
    refine hw_turn (v := .slice (some ⟨w.heap.size, 0, none⟩) 1 1) (w' := w.alloc (.cells [v].toArray e)) ?_ (h _ _ (H.alloc _ _))
    simp [execOp, ho, hx, hr]
theorem JI_step {w W : World} {gO gB n c k nn : Nat} {A : Option Addr} {b0 o1 o2 : Item} {x : Ch} {A' : Option Addr} {c' : Nat} {chs : List Ch} (hn : nn = chs.length)
    (H : Hp w W (b0 :: x.item :: o1 :: o2 :: .own 22 1 A' (nn + 1) c' (rowsC chC chs ++ chC x) :: .blk gO 61 [.slice A' (nn + 1) c'] :: .blk gB 22 [.slice (offA A (80 * k)) (n - 80 * k) (c - 80 * k)] :: chs.map Ch.item)) : Hp w W (JI gO gB A n c k (A', c', chs ++ [x])) := by
  subst hn
  have H2 := H.tail
  have H3 := H2.sub (L' := x.item :: .own 22 1 A' (chs.length + 1) c' (rowsC chC chs ++ chC x) :: .blk gO 61 [.slice A' (chs.length + 1) c'] :: .blk gB 22 [.slice (offA A (80 * k)) (n - 80 * k) (c - 80 * k)] :: chs.map Ch.item) (List.Sublist.cons_cons _ ((List.sublist_cons_self _ _).trans (List.sublist_cons_self _ _)))
  have H4 := H3.perm (List.perm_append_singleton _ _).symm
  show Hp w W (.own 22 1 A' (chs ++ [x]).length c' (rowsC chC (chs ++ [x])) :: .blk gO 61 [.slice A' (chs ++ [x]).length c'] :: .blk gB 22 [.slice (offA A (80 * k)) (n - 80 * k) (c - 80 * k)] :: (chs ++ [x]).map Ch.item)
  rw [List.map_append, rowsC_snoc, List.length_append]
  exact H4
theorem split_no (A : Option Addr) (c : Nat) (l : List UInt8) (w : World) (hg : decide ((640 : Int) < l.length) = true) : Calls Try.prog 30 #[.slice A l.length c] w (RetCh w [] 3) := by
  have H := (Hp.nil w).nilRow 22 1
  go_enter Try.func30, Try.ntmps30
  go_wp2_with (first | ((with_reducible refine Hp.box H ?_); (first | refine ⟨rfl, [.pointer _], rfl, ?_⟩ | refine ⟨rfl, [.int _ _], rfl, ?_⟩ | refine ⟨rfl, [.slice _ _ _], rfl, ?_⟩ | refine ⟨rfl, [.bool _], rfl, ?_⟩ | refine ⟨rfl, [.string _], rfl, ?_⟩ | refine ⟨rfl, _, rfl, ?_⟩); (clear H; intro g1 w1 H); go_frame) | ((with_reducible refine Hp.allo H ?_); refine ⟨rfl, ?_⟩; refine ⟨_, z_look rfl, ?_⟩; (clear H; intro g1 w1 H); go_frame) | ((with_reducible refine Hp.ld H ?_); refine ⟨rfl, ?_⟩; refine ⟨c_look rfl, ?_⟩; refine ⟨_, _, rfl, ?_⟩; ((repeat ((fail_if_success refine ⟨_, _, _, .z, ?_⟩); refine hs ?_)); refine ⟨_, _, _, .z, ?_⟩); refine ⟨_, rfl, ?_⟩; go_frame) | ((with_reducible refine Hp.lda H ?_); refine ⟨rfl, by kernel_rfl, ?_⟩; refine ⟨_, s_look rfl, ?_⟩; refine ⟨_, rfl, ?_⟩; ((repeat ((fail_if_success refine ⟨_, _, _, .z, ?_⟩); refine hs ?_)); refine ⟨_, _, _, .z, ?_⟩); refine ⟨rfl, ?_⟩; go_frame) | ((with_reducible refine Hp.lds H ?_); refine ⟨rfl, by kernel_rfl, ?_⟩; refine ⟨_, s_look rfl, ?_⟩; refine ⟨_, _, rfl, ?_⟩; ((repeat ((fail_if_success refine ⟨_, _, _, .z, ?_⟩); refine hs ?_)); refine ⟨_, _, _, .z, ?_⟩); (first | refine ⟨[_, _], rfl, rfl, ?_⟩ | refine ⟨[_, _, _, _], rfl, rfl, ?_⟩ | refine ⟨[_, _, _, _, _, _, _], rfl, rfl, ?_⟩ | refine ⟨[_, _, _], rfl, rfl, ?_⟩ | (fail)); go_frame) | ((with_reducible refine Hp.sto H ?_); refine ⟨rfl, ?_⟩; refine ⟨c_look rfl, ?_⟩; refine ⟨_, _, rfl, ?_⟩; ((repeat ((fail_if_success refine ⟨_, _, _, .z, ?_⟩); refine hs ?_)); refine ⟨_, _, _, .z, ?_⟩); refine ⟨⟨_, rfl⟩, rfl, ?_⟩; (clear H; intro w1 H; simp only [List.set] at H); go_frame) | ((with_reducible refine Hp.sta H ?_); refine ⟨rfl, ?_⟩; refine ⟨_, s_look rfl, ?_⟩; refine ⟨_, rfl, _, rfl, rfl, ?_⟩; ((repeat ((fail_if_success refine ⟨_, _, _, .z, ?_⟩); refine hs ?_)); refine ⟨_, _, _, .z, ?_⟩); refine ⟨rfl, rfl, ?_⟩; (clear H; intro w1 H; simp only [List.set] at H); go_frame) | ((with_reducible refine Hp.str H ?_); refine ⟨rfl, ?_⟩; refine ⟨_, s_look rfl, ?_⟩; refine ⟨_, _, rfl, _, rfl, rfl, ?_⟩; ((repeat ((fail_if_success refine ⟨_, _, _, .z, ?_⟩); refine hs ?_)); refine ⟨_, _, _, .z, ?_⟩); refine ⟨rfl, _, rfl, _, rfl, Nat.le_of_ble_eq_true rfl, ?_⟩; (clear H; intro w1 H; simp only [List.set] at H); go_frame) | ((with_reducible refine Hp.bdl H ?_); (fail); go_frame) | (fail))
  go_ret2
  exact ⟨none, 0, [], rfl, rfl, H⟩
theorem ll_i1 : (Try.prog.info? 22).map (fun i => (i.zero.isSome, i.size)) = some (true, 1) := by kernel_rfl
set_option maxRecDepth 100000 in
set_option maxHeartbeats 4000000 in
theorem split_yes (A : Option Addr) (c : Nat) (l : List UInt8) (w : World) (hr : Rd w A l) (hc : l.length ≤ c) (hm : c ≤ maxLen) (hg : decide ((640 : Int) < l.length) = false) : Calls Try.prog 30 #[.slice A l.length c] w (RetCh w (spl l) 0) := by
  have H := (Hp.nil w).nilRow 22 1
  refine (callsIn_wide (n := 3)).1 ?_
  refine callsIn_of_wp_marks Try.func30 rfl trivial ?_
  simp only [Try.ntmps30, List.size_toArray, List.length_cons, List.length_nil, Nat.reduceAdd, Nat.reduceSub, Array.replicate_succ, Array.replicate_zero, List.push_toArray, List.append_toArray, List.nil_append, List.cons_append]
  refine wpIn_wide.2 ?_
  go_wp2_with (first | ((with_reducible refine Hp.box H ?_); (first | refine ⟨rfl, [.pointer _], rfl, ?_⟩ | refine ⟨rfl, [.int _ _], rfl, ?_⟩ | refine ⟨rfl, [.slice _ _ _], rfl, ?_⟩ | refine ⟨rfl, [.bool _], rfl, ?_⟩ | refine ⟨rfl, [.string _], rfl, ?_⟩ | refine ⟨rfl, _, rfl, ?_⟩); (clear H; intro g1 w1 H); go_frame) | ((with_reducible refine Hp.allo H ?_); refine ⟨rfl, ?_⟩; refine ⟨_, z_LL, ?_⟩; (clear H; intro gO w1 H); go_frame) | ((with_reducible refine Hp.ld H ?_); refine ⟨rfl, ?_⟩; refine ⟨c_look rfl, ?_⟩; refine ⟨_, _, rfl, ?_⟩; ((repeat ((fail_if_success refine ⟨_, _, _, .z, ?_⟩); refine hs ?_)); refine ⟨_, _, _, .z, ?_⟩); refine ⟨_, rfl, ?_⟩; go_frame) | ((with_reducible refine Hp.lda H ?_); refine ⟨rfl, by kernel_rfl, ?_⟩; refine ⟨_, s_look rfl, ?_⟩; refine ⟨_, rfl, ?_⟩; ((repeat ((fail_if_success refine ⟨_, _, _, .z, ?_⟩); refine hs ?_)); refine ⟨_, _, _, .z, ?_⟩); refine ⟨rfl, ?_⟩; go_frame) | ((with_reducible refine Hp.lds H ?_); refine ⟨rfl, by kernel_rfl, ?_⟩; refine ⟨_, s_look rfl, ?_⟩; refine ⟨_, _, rfl, ?_⟩; ((repeat ((fail_if_success refine ⟨_, _, _, .z, ?_⟩); refine hs ?_)); refine ⟨_, _, _, .z, ?_⟩); (first | refine ⟨[_, _], rfl, rfl, ?_⟩ | refine ⟨[_, _, _, _], rfl, rfl, ?_⟩ | refine ⟨[_, _, _, _, _, _, _], rfl, rfl, ?_⟩ | refine ⟨[_, _, _], rfl, rfl, ?_⟩ | (fail)); go_frame) | ((with_reducible refine Hp.stv H ?_); refine ⟨rfl, ?_⟩; refine ⟨c_look rfl, ?_⟩; (first | refine ⟨.bool _, rfl, ?_⟩ | refine ⟨.int _ _, rfl, ?_⟩ | refine ⟨.string _, rfl, ?_⟩ | refine ⟨.slice _ _ _, rfl, ?_⟩ | refine ⟨.pointer _, rfl, ?_⟩); refine ⟨rfl, _, _, rfl, ?_⟩; ((repeat ((fail_if_success refine ⟨_, _, _, .z, ?_⟩); refine hs ?_)); refine ⟨_, _, _, .z, ?_⟩); refine ⟨⟨_, rfl⟩, ?_⟩; (clear H; intro w1 H; simp only [List.set] at H); go_frame) | ((with_reducible refine Hp.sta H ?_); refine ⟨rfl, ?_⟩; refine ⟨_, s_look rfl, ?_⟩; refine ⟨_, rfl, _, rfl, rfl, ?_⟩; ((repeat ((fail_if_success refine ⟨_, _, _, .z, ?_⟩); refine hs ?_)); refine ⟨_, _, _, .z, ?_⟩); refine ⟨rfl, rfl, ?_⟩; (clear H; intro w1 H; simp only [List.set] at H); go_frame) | ((with_reducible refine Hp.str H ?_); refine ⟨rfl, ?_⟩; refine ⟨_, s_look rfl, ?_⟩; refine ⟨_, _, rfl, _, rfl, rfl, ?_⟩; ((repeat ((fail_if_success refine ⟨_, _, _, .z, ?_⟩); refine hs ?_)); refine ⟨_, _, _, .z, ?_⟩); refine ⟨rfl, _, rfl, _, rfl, Nat.le_of_ble_eq_true rfl, ?_⟩; (clear H; intro w1 H; simp only [List.set] at H); go_frame) | ((with_reducible refine Hp.bdl H ?_); (fail); go_frame) | ((with_reducible refine (pieces_any _ _ _ _).mono ?_); rintro _ w1 ⟨gB, rfl, HB⟩; replace H := HB.onto H; clear HB; simp only [List.cons_append, List.nil_append] at H))
  have H1 : Hp w w1 (JI gO gB A l.length c 0 (none, 0, [])) := by
    unfold JI
    rw [Nat.mul_zero, offA_0]
    exact H.pick [2, 1, 0] (by decide) rfl
  have h0 : JS w gO gB A l.length c 0 [] w1 := ⟨(none, 0, []), rfl, H1⟩
  have hsz := H.size
  clear H H1
  refine (wpIn_wide (n := 3)).1 (rangeFunc_law rfl (by omega) (gf := 43) (lb := #[.pointer (some ⟨gB, 0, none⟩)]) rfl trivial (enters_of Try.func43 (by kernel_rfl) rfl) (encs := encP (w := w)) (fun _ => rfl) (JS w gO gB A l.length c) (fun k => JS_own w gO gB A l.length c k hsz) h0 (fun xs => xs.map (fun x : Pc w => x.1.l) = spl l) 1000 ?a1 ?assign ?body ?iter ?done)
  case assign =>
    intro ll x W K hK
    dsimp only [encP]
    gi_wp2
    exact hK
  case iter =>
    intro ll D o o' W hb1 hb2 hne ho ho' h0 hl hD hY
    exact pieces1_in 2 w A c l hr hc hm (by have := of_decide_eq_false hg; omega) gO gB ll D o o' W (by omega) (by omega) hne ho ho' h0 hl hD hY
  case body =>
    intro ll D o o' k pre x W hb1 hb2 hne ho ho' hN ⟨q, hq, H⟩ hl hD
    have HH := H.addObj2 (JI_no gO gB _ _ _ k q) hl hD ho ho' (by omega) (by omega) hne
    have hql : q.2.2.length ≤ 1000000 := by
      have := congrArg List.length hq
      simp only [List.length_map] at this
      omega
    have HH' : Hp w W ((.obj ll o :: .obj D o' :: JI gO gB A l.length c k q) ++ []) := by rw [List.append_nil]; exact HH
    clear HH H
    gi_wp2
    refine hw_startIn _ [] HH' (by kernel_rfl) (by kernel_rfl) (fun ⟨_, _, h⟩ => h) (fun w1 H => ?_)
    clear HH'
    rw [List.append_nil] at H
    replace H : Hp w w1 (.obj ll o :: .obj D o' :: .rows 22 1 chC q.1 q.2.1 q.2.2 :: .blk gO 61 [.slice q.1 q.2.2.length q.2.1] :: .blk gB 22 [.slice (offA A (80 * k)) (l.length - 80 * k) (c - 80 * k)] :: q.2.2.map Ch.item) := H
    have hS := hS0 H
    (refine hw_take hS 1 (by decide +kernel) (by decide +kernel) (by decide +kernel) ⟨_, rfl, rfl, ?_, ?_, fun _ _ _ h => h, ?_⟩; rotate_left; (intro w _; go_simp; try with_reducible rfl); go_frame)
    clear hS
    refine hw_two 0 2 (by decide +kernel) ⟨_, rfl, rfl, fun K hK => ?_⟩ ⟨_, rfl, rfl, fun K hK => ?_⟩
    · (refine hw_value (ex_load rfl rfl (run_loadAt_cell (oneT_c c_LL) (H.c 3 rfl 0 rfl))) (hK _ _ (hS0 H) ?_); clear hK K; go_frame)
      (refine hw_one 2 (by decide +kernel) ⟨_, rfl, rfl, fun K hK => ?_⟩); (refine hw_callB (vs := [_]) (l := x.1.l) (sclone_n _ _ x.1.l _ _ (x.2.1.below H.below) (by have := x.2.2; omega) rfl) cf_sclone rfl rfl rfl H (fun A3 c3 w3 H => ?_); refine hK _ _ (hS0 H) ?_; clear hK K; go_frame)
      (refine hw_one 3 (by decide +kernel) ⟨_, rfl, rfl, fun K hK => ?_⟩); (refine hw_bslc rfl ll_u ll_i1 rfl rfl H (fun g1 w1 H => ?_); refine hK _ _ (hS0 H) ?_; clear hK K; go_frame)
      (refine hw_one 4 (by decide +kernel) ⟨_, rfl, rfl, fun K hK => ?_⟩); (refine hw_appRow rfl rfl rfl ll_u ll_info rfl rfl rfl H 4 0 rfl rfl rfl (ch_one ⟨A3, c3, x.1.l⟩) hql (fun A4 c4 w4 H => ?_); (simp only [List.set_cons_succ, List.set_cons_zero] at H); refine hK _ _ (hS0 H) ?_; clear hK K; go_frame)
      (refine hw_one 5 (by decide +kernel) ⟨_, rfl, rfl, fun K hK => ?_⟩); (refine hw_sto (v := .slice A4 (q.2.2.length + 1) c4) c_LL rfl rfl rfl H (.s (.s (.s (.s (.s .z))))) (Nat.le_of_ble_eq_true rfl) rfl (fun w5 H => ?_); (simp only [List.set_cons_succ, List.set_cons_zero] at H); refine hK _ _ (hS0 H) ?_; clear hK K; go_frame)
      (refine wpAnyH_done (by kernel_rfl) ?_ _; exact ⟨⟨(A4, c4, q.2.2 ++ [⟨A3, c3, x.1.l⟩]), by simp [hq], JI_step rfl H⟩, H.ob 2 rfl, H.ob 3 rfl⟩)
    · (refine hw_callB (vs := [_]) (l := x.1.l) (sclone_n _ _ x.1.l _ _ (x.2.1.below H.below) (by have := x.2.2; omega) rfl) cf_sclone rfl rfl rfl H (fun A3 c3 w3 H => ?_); refine hK _ _ (hS0 H) ?_; clear hK K; go_frame)
      refine hw_two 0 3 (by decide +kernel) ⟨_, rfl, rfl, fun K hK => ?_⟩ ⟨_, rfl, rfl, fun K hK => ?_⟩
      · (refine hw_value (ex_load rfl rfl (run_loadAt_cell (oneT_c c_LL) (H.c 4 rfl 0 rfl))) (hK _ _ (hS0 H) ?_); clear hK K; go_frame)
        (refine hw_one 3 (by decide +kernel) ⟨_, rfl, rfl, fun K hK => ?_⟩); (refine hw_bslc rfl ll_u ll_i1 rfl rfl H (fun g1 w1 H => ?_); refine hK _ _ (hS0 H) ?_; clear hK K; go_frame)
        (refine hw_one 4 (by decide +kernel) ⟨_, rfl, rfl, fun K hK => ?_⟩); (refine hw_appRow rfl rfl rfl ll_u ll_info rfl rfl rfl H 4 0 rfl rfl rfl (ch_one ⟨A3, c3, x.1.l⟩) hql (fun A4 c4 w4 H => ?_); (simp only [List.set_cons_succ, List.set_cons_zero] at H); refine hK _ _ (hS0 H) ?_; clear hK K; go_frame)
        (refine hw_one 5 (by decide +kernel) ⟨_, rfl, rfl, fun K hK => ?_⟩); (refine hw_sto (v := .slice A4 (q.2.2.length + 1) c4) c_LL rfl rfl rfl H (.s (.s (.s (.s (.s .z))))) (Nat.le_of_ble_eq_true rfl) rfl (fun w5 H => ?_); (simp only [List.set_cons_succ, List.set_cons_zero] at H); refine hK _ _ (hS0 H) ?_; clear hK K; go_frame)
        (refine wpAnyH_done (by kernel_rfl) ?_ _; exact ⟨⟨(A4, c4, q.2.2 ++ [⟨A3, c3, x.1.l⟩]), by simp [hq], JI_step rfl H⟩, H.ob 2 rfl, H.ob 3 rfl⟩)
      · (refine hw_bslc rfl ll_u ll_i1 rfl rfl H (fun g1 w1 H => ?_); refine hK _ _ (hS0 H) ?_; clear hK K; go_frame)
        (refine hw_one 0 (by decide +kernel) ⟨_, rfl, rfl, fun K hK => ?_⟩); (refine hw_value (ex_load rfl rfl (run_loadAt_cell (oneT_c c_LL) (H.c 5 rfl 0 rfl))) (hK _ _ (hS0 H) ?_); clear hK K; go_frame)
        (refine hw_one 4 (by decide +kernel) ⟨_, rfl, rfl, fun K hK => ?_⟩); (refine hw_appRow rfl rfl rfl ll_u ll_info rfl rfl rfl H 4 0 rfl rfl rfl (ch_one ⟨A3, c3, x.1.l⟩) hql (fun A4 c4 w4 H => ?_); (simp only [List.set_cons_succ, List.set_cons_zero] at H); refine hK _ _ (hS0 H) ?_; clear hK K; go_frame)
        (refine hw_one 5 (by decide +kernel) ⟨_, rfl, rfl, fun K hK => ?_⟩); (refine hw_sto (v := .slice A4 (q.2.2.length + 1) c4) c_LL rfl rfl rfl H (.s (.s (.s (.s (.s .z))))) (Nat.le_of_ble_eq_true rfl) rfl (fun w5 H => ?_); (simp only [List.set_cons_succ, List.set_cons_zero] at H); refine hK _ _ (hS0 H) ?_; clear hK K; go_frame)
        (refine wpAnyH_done (by kernel_rfl) ?_ _; exact ⟨⟨(A4, c4, q.2.2 ++ [⟨A3, c3, x.1.l⟩]), by simp [hq], JI_step rfl H⟩, H.ob 2 rfl, H.ob 3 rfl⟩)
  case done =>
    rintro D k xs W hDw hS ⟨q, hq, H⟩ hK
    go_wp2_with (first | ((with_reducible refine Hp.box H ?_); (first | refine ⟨rfl, [.pointer _], rfl, ?_⟩ | refine ⟨rfl, [.int _ _], rfl, ?_⟩ | refine ⟨rfl, [.slice _ _ _], rfl, ?_⟩ | refine ⟨rfl, [.bool _], rfl, ?_⟩ | refine ⟨rfl, [.string _], rfl, ?_⟩ | refine ⟨rfl, _, rfl, ?_⟩); (clear H; intro g1 w1 H); go_frame) | ((with_reducible refine Hp.allo H ?_); refine ⟨rfl, ?_⟩; refine ⟨_, z_LL, ?_⟩; (clear H; intro gO w1 H); go_frame) | ((with_reducible refine Hp.ld H ?_); refine ⟨rfl, ?_⟩; refine ⟨c_look rfl, ?_⟩; refine ⟨_, _, rfl, ?_⟩; ((repeat ((fail_if_success refine ⟨_, _, _, .z, ?_⟩); refine hs ?_)); refine ⟨_, _, _, .z, ?_⟩); refine ⟨_, rfl, ?_⟩; go_frame) | ((with_reducible refine Hp.lda H ?_); refine ⟨rfl, by kernel_rfl, ?_⟩; refine ⟨_, s_look rfl, ?_⟩; refine ⟨_, rfl, ?_⟩; ((repeat ((fail_if_success refine ⟨_, _, _, .z, ?_⟩); refine hs ?_)); refine ⟨_, _, _, .z, ?_⟩); refine ⟨rfl, ?_⟩; go_frame) | ((with_reducible refine Hp.lds H ?_); refine ⟨rfl, by kernel_rfl, ?_⟩; refine ⟨_, s_look rfl, ?_⟩; refine ⟨_, _, rfl, ?_⟩; ((repeat ((fail_if_success refine ⟨_, _, _, .z, ?_⟩); refine hs ?_)); refine ⟨_, _, _, .z, ?_⟩); (first | refine ⟨[_, _], rfl, rfl, ?_⟩ | refine ⟨[_, _, _, _], rfl, rfl, ?_⟩ | refine ⟨[_, _, _, _, _, _, _], rfl, rfl, ?_⟩ | refine ⟨[_, _, _], rfl, rfl, ?_⟩ | (fail)); go_frame) | ((with_reducible refine Hp.stv H ?_); refine ⟨rfl, ?_⟩; refine ⟨c_look rfl, ?_⟩; (first | refine ⟨.bool _, rfl, ?_⟩ | refine ⟨.int _ _, rfl, ?_⟩ | refine ⟨.string _, rfl, ?_⟩ | refine ⟨.slice _ _ _, rfl, ?_⟩ | refine ⟨.pointer _, rfl, ?_⟩); refine ⟨rfl, _, _, rfl, ?_⟩; ((repeat ((fail_if_success refine ⟨_, _, _, .z, ?_⟩); refine hs ?_)); refine ⟨_, _, _, .z, ?_⟩); refine ⟨⟨_, rfl⟩, ?_⟩; (clear H; intro w1 H; simp only [List.set] at H); go_frame) | ((with_reducible refine Hp.sta H ?_); refine ⟨rfl, ?_⟩; refine ⟨_, s_look rfl, ?_⟩; refine ⟨_, rfl, _, rfl, rfl, ?_⟩; ((repeat ((fail_if_success refine ⟨_, _, _, .z, ?_⟩); refine hs ?_)); refine ⟨_, _, _, .z, ?_⟩); refine ⟨rfl, rfl, ?_⟩; (clear H; intro w1 H; simp only [List.set] at H); go_frame) | ((with_reducible refine Hp.str H ?_); refine ⟨rfl, ?_⟩; refine ⟨_, s_look rfl, ?_⟩; refine ⟨_, _, rfl, _, rfl, rfl, ?_⟩; ((repeat ((fail_if_success refine ⟨_, _, _, .z, ?_⟩); refine hs ?_)); refine ⟨_, _, _, .z, ?_⟩); refine ⟨rfl, _, rfl, _, rfl, Nat.le_of_ble_eq_true rfl, ?_⟩; (clear H; intro w1 H; simp only [List.set] at H); go_frame) | ((with_reducible refine Hp.bdl H ?_); (fail); go_frame) | ((with_reducible refine (pieces_any _ _ _ _).mono ?_); rintro _ w1 ⟨gB, rfl, HB⟩; replace H := HB.onto H; clear HB; simp only [List.cons_append, List.nil_append] at H))
    have hO := (Hp.ownFrom (fun _ : Unit => JI gO gB A l.length c k q) (fun _ => JI_no gO gB A l.length c k q) (Nat.le_refl w.heap.size)).putObj (s := ()) (.deferred none) H (by omega) hK rfl
    refine ⟨by simp, .inl ⟨_, _, rfl, run_takeDeferred hK, ?_⟩⟩
    refine ⟨_, results_tmp2 rfl _ _ _, q.1, q.2.1, q.2.2, rfl, hq.trans hS, ?_⟩
    exact hO.sub (List.Sublist.cons_cons _ ((List.sublist_cons_self _ _).trans (List.sublist_cons_self _ _)))
end Go.Proofs.Ytanpglhpmfdnmaa
