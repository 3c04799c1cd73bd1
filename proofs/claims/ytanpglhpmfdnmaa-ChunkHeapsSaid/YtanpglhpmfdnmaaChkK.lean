/-
  chunk.Heap: New, Put, Lose.
-/
import Derived.Test.YtanpglhpmfdnmaaChkI
namespace Go.Proofs.Ytanpglhpmfdnmaa
open Go.RowKit
set_option linter.unusedVariables false
set_option linter.unusedSimpArgs false
/-! What is put, what is lost. -/
def putM (k : Int) (x : Ch) (cl : Nat) : List MCh → List MCh
  | [] => [(k, x, cl)]
  | y :: ms => if k = y.1 then (k, x, y.2.2) :: ms else y :: putM k x cl ms
def delM (k : Int) : List MCh → List MCh
  | [] => []
  | y :: ms => if k = y.1 then ms else y :: delM k ms
def Hs.put (s : Hs) (k : Int) (x : Ch) : Hs := ⟨s.n, putM k x s.cl s.ms, if (getM k s.ms).isSome then s.cl else s.cl + 1⟩
def Hs.del (s : Hs) (k : Int) : Hs := ⟨s.n, delM k s.ms, s.cl⟩
theorem lookI_shift (k : Int) : ∀ (ms : List En3) (i : Nat), lookI k ms (i + 1) = (lookI k ms i).map (fun p => (p.1 + 1, p.2))
  | [], _ => rfl
  | x :: ms, i => by
    rw [lookI, lookI]
    by_cases h : k = x.1
    · rw [if_pos h, if_pos h]; rfl
    · rw [if_neg h, if_neg h]; exact lookI_shift k ms (i + 1)
theorem putM_es (k : Int) (x : Ch) (cl : Nat) : ∀ ms : List MCh, (putM k x cl ms).map hmE = putI k (.slice x.A x.l.length x.c) cl (ms.map hmE)
  | [] => rfl
  | y :: ms => by
    have ih := putM_es k x cl ms
    unfold putI at ih ⊢
    rw [putM, List.map_cons, lookI]
    by_cases h : k = y.1
    · rw [if_pos h, if_pos (show k = (hmE y).1 from h)]
      rfl
    · rw [if_neg h, if_neg (show ¬ k = (hmE y).1 from h), lookI_shift, List.map_cons, ih]
      cases lookI k (ms.map hmE) 0 with
      | none => rfl
      | some p => obtain ⟨i, v⟩ := p; rfl
theorem delM_es (k : Int) : ∀ ms : List MCh, (delM k ms).map hmE = delI k (ms.map hmE)
  | [] => rfl
  | y :: ms => by
    have ih := delM_es k ms
    unfold delI at ih ⊢
    rw [delM, List.map_cons, lookI]
    by_cases h : k = y.1
    · rw [if_pos h, if_pos (show k = (hmE y).1 from h)]
      rfl
    · rw [if_neg h, if_neg (show ¬ k = (hmE y).1 from h), lookI_shift, List.map_cons, ih]
      cases lookI k (ms.map hmE) 0 with
      | none => rfl
      | some p => obtain ⟨i, v⟩ := p; rfl
theorem putC_es (k : Int) (cl : Nat) (ms : List MCh) : putC k cl (ms.map hmE) = if (getM k ms).isSome then cl else cl + 1 := by
  have := lookI_get k ms 0
  unfold putC
  cases e : lookI k (ms.map hmE) 0 with
  | none =>
    rw [e] at this
    cases g : getM k ms with
    | none => rfl
    | some x => rw [g] at this; cases this
  | some p =>
    rw [e] at this
    cases g : getM k ms with
    | none => rw [g] at this; cases this
    | some x => rfl
abbrev ghI (gh gm : Nat) (s : Hs) : Item := .blk gh 38 [.int .i64 s.n, .map (some gm)]
abbrev gmI (gm : Nat) (s : Hs) : Item := .obj gm (.map (s.es.map mE).toArray s.cl)
theorem hm_of {w0 w : World} {gh gm : Nat} {s : Hs} {L : List Item} (H : Hp w0 w (ghI gh gm s :: gmI gm s :: L)) (hsub : ∀ x ∈ s.ms, x.2.1.item ∈ L ∧ x.2.1.l.length ≤ 1000) : HM w gh gm s := by
  refine ⟨H.c 0 rfl 0 rfl, H.c 0 rfl 1 rfl, H.ob 1 rfl, fun x hx => ⟨?_, (hsub x hx).2⟩⟩
  exact Own.rd (base := w0.heap.size) (c := x.2.1.c) (H.holds _ (List.mem_cons_of_mem _ (List.mem_cons_of_mem _ (hsub x hx).1)))
/-! New. -/
theorem b_heap (n : Int) (g : Nat) : Try.prog.built 38 [(0, .int .i64 n), (1, .map (some g))] = some [.int .i64 n, .map (some g)].toArray := by kernel_rfl
theorem hnew_no (n : Int) (w : World) (h : n < 1 ∨ 8 < n) : Calls Try.prog 21 #[.int .i64 n] w (RetV w (.tuple #[.pointer none, .int .i64 2])) := by
  have H := Hp.nil w
  by_cases h1 : n < 1
  · go_enter Try.func21, Try.ntmps21
    go_wp2_with (first | ((with_reducible refine Hp.box H ?_); (first | refine ⟨rfl, [.pointer _], rfl, ?_⟩ | refine ⟨rfl, [.int _ _], rfl, ?_⟩ | refine ⟨rfl, [.slice _ _ _], rfl, ?_⟩ | refine ⟨rfl, [.bool _], rfl, ?_⟩ | refine ⟨rfl, [.string _], rfl, ?_⟩ | refine ⟨rfl, _, rfl, ?_⟩); (clear H; intro g1 w1 H); go_frame) | ((with_reducible refine Hp.allo H ?_); refine ⟨rfl, ?_⟩; refine ⟨_, z_look rfl, ?_⟩; (clear H; intro g1 w1 H); go_frame) | ((with_reducible refine Hp.ld H ?_); refine ⟨rfl, ?_⟩; refine ⟨c_look rfl, ?_⟩; refine ⟨_, _, rfl, ?_⟩; ((repeat ((fail_if_success refine ⟨_, _, _, .z, ?_⟩); refine hs ?_)); refine ⟨_, _, _, .z, ?_⟩); refine ⟨_, rfl, ?_⟩; go_frame) | ((with_reducible refine Hp.lda H ?_); refine ⟨rfl, by kernel_rfl, ?_⟩; refine ⟨_, s_look rfl, ?_⟩; refine ⟨_, rfl, ?_⟩; ((repeat ((fail_if_success refine ⟨_, _, _, .z, ?_⟩); refine hs ?_)); refine ⟨_, _, _, .z, ?_⟩); refine ⟨rfl, ?_⟩; go_frame) | ((with_reducible refine Hp.lds H ?_); refine ⟨rfl, by kernel_rfl, ?_⟩; refine ⟨_, s_look rfl, ?_⟩; refine ⟨_, _, rfl, ?_⟩; ((repeat ((fail_if_success refine ⟨_, _, _, .z, ?_⟩); refine hs ?_)); refine ⟨_, _, _, .z, ?_⟩); (first | refine ⟨[_, _], rfl, rfl, ?_⟩ | refine ⟨[_, _, _, _], rfl, rfl, ?_⟩ | refine ⟨[_, _, _, _, _, _, _], rfl, rfl, ?_⟩ | refine ⟨[_, _, _], rfl, rfl, ?_⟩ | (fail)); go_frame) | ((with_reducible refine Hp.sto H ?_); refine ⟨rfl, ?_⟩; refine ⟨c_look rfl, ?_⟩; refine ⟨_, _, rfl, ?_⟩; ((repeat ((fail_if_success refine ⟨_, _, _, .z, ?_⟩); refine hs ?_)); refine ⟨_, _, _, .z, ?_⟩); refine ⟨⟨_, rfl⟩, rfl, ?_⟩; (clear H; intro w1 H; simp only [List.set] at H); go_frame) | ((with_reducible refine Hp.sta H ?_); refine ⟨rfl, ?_⟩; refine ⟨_, s_look rfl, ?_⟩; refine ⟨_, rfl, _, rfl, rfl, ?_⟩; ((repeat ((fail_if_success refine ⟨_, _, _, .z, ?_⟩); refine hs ?_)); refine ⟨_, _, _, .z, ?_⟩); refine ⟨rfl, rfl, ?_⟩; (clear H; intro w1 H; simp only [List.set] at H); go_frame) | ((with_reducible refine Hp.str H ?_); refine ⟨rfl, ?_⟩; refine ⟨_, s_look rfl, ?_⟩; refine ⟨_, _, rfl, _, rfl, rfl, ?_⟩; ((repeat ((fail_if_success refine ⟨_, _, _, .z, ?_⟩); refine hs ?_)); refine ⟨_, _, _, .z, ?_⟩); refine ⟨rfl, _, rfl, _, rfl, Nat.le_of_ble_eq_true rfl, ?_⟩; (clear H; intro w1 H; simp only [List.set] at H); go_frame) | ((with_reducible refine Hp.bdl (t := 38) (parts := [_, _]) H ?_); refine ⟨rfl, _, b_heap _ _, ?_⟩; go_frame) | ((with_reducible refine Hp.mkMap H ?_); refine ⟨rfl, ?_⟩; (clear H; intro gm w1 H); go_frame))
    go_ret2
    exact ⟨rfl, H.below⟩
  · have h2 : 8 < n := by omega
    go_enter Try.func21, Try.ntmps21
    go_wp2_with (first | ((with_reducible refine Hp.box H ?_); (first | refine ⟨rfl, [.pointer _], rfl, ?_⟩ | refine ⟨rfl, [.int _ _], rfl, ?_⟩ | refine ⟨rfl, [.slice _ _ _], rfl, ?_⟩ | refine ⟨rfl, [.bool _], rfl, ?_⟩ | refine ⟨rfl, [.string _], rfl, ?_⟩ | refine ⟨rfl, _, rfl, ?_⟩); (clear H; intro g1 w1 H); go_frame) | ((with_reducible refine Hp.allo H ?_); refine ⟨rfl, ?_⟩; refine ⟨_, z_look rfl, ?_⟩; (clear H; intro g1 w1 H); go_frame) | ((with_reducible refine Hp.ld H ?_); refine ⟨rfl, ?_⟩; refine ⟨c_look rfl, ?_⟩; refine ⟨_, _, rfl, ?_⟩; ((repeat ((fail_if_success refine ⟨_, _, _, .z, ?_⟩); refine hs ?_)); refine ⟨_, _, _, .z, ?_⟩); refine ⟨_, rfl, ?_⟩; go_frame) | ((with_reducible refine Hp.lda H ?_); refine ⟨rfl, by kernel_rfl, ?_⟩; refine ⟨_, s_look rfl, ?_⟩; refine ⟨_, rfl, ?_⟩; ((repeat ((fail_if_success refine ⟨_, _, _, .z, ?_⟩); refine hs ?_)); refine ⟨_, _, _, .z, ?_⟩); refine ⟨rfl, ?_⟩; go_frame) | ((with_reducible refine Hp.lds H ?_); refine ⟨rfl, by kernel_rfl, ?_⟩; refine ⟨_, s_look rfl, ?_⟩; refine ⟨_, _, rfl, ?_⟩; ((repeat ((fail_if_success refine ⟨_, _, _, .z, ?_⟩); refine hs ?_)); refine ⟨_, _, _, .z, ?_⟩); (first | refine ⟨[_, _], rfl, rfl, ?_⟩ | refine ⟨[_, _, _, _], rfl, rfl, ?_⟩ | refine ⟨[_, _, _, _, _, _, _], rfl, rfl, ?_⟩ | refine ⟨[_, _, _], rfl, rfl, ?_⟩ | (fail)); go_frame) | ((with_reducible refine Hp.sto H ?_); refine ⟨rfl, ?_⟩; refine ⟨c_look rfl, ?_⟩; refine ⟨_, _, rfl, ?_⟩; ((repeat ((fail_if_success refine ⟨_, _, _, .z, ?_⟩); refine hs ?_)); refine ⟨_, _, _, .z, ?_⟩); refine ⟨⟨_, rfl⟩, rfl, ?_⟩; (clear H; intro w1 H; simp only [List.set] at H); go_frame) | ((with_reducible refine Hp.sta H ?_); refine ⟨rfl, ?_⟩; refine ⟨_, s_look rfl, ?_⟩; refine ⟨_, rfl, _, rfl, rfl, ?_⟩; ((repeat ((fail_if_success refine ⟨_, _, _, .z, ?_⟩); refine hs ?_)); refine ⟨_, _, _, .z, ?_⟩); refine ⟨rfl, rfl, ?_⟩; (clear H; intro w1 H; simp only [List.set] at H); go_frame) | ((with_reducible refine Hp.str H ?_); refine ⟨rfl, ?_⟩; refine ⟨_, s_look rfl, ?_⟩; refine ⟨_, _, rfl, _, rfl, rfl, ?_⟩; ((repeat ((fail_if_success refine ⟨_, _, _, .z, ?_⟩); refine hs ?_)); refine ⟨_, _, _, .z, ?_⟩); refine ⟨rfl, _, rfl, _, rfl, Nat.le_of_ble_eq_true rfl, ?_⟩; (clear H; intro w1 H; simp only [List.set] at H); go_frame) | ((with_reducible refine Hp.bdl (t := 38) (parts := [_, _]) H ?_); refine ⟨rfl, _, b_heap _ _, ?_⟩; go_frame) | ((with_reducible refine Hp.mkMap H ?_); refine ⟨rfl, ?_⟩; (clear H; intro gm w1 H); go_frame))
    go_ret2
    exact ⟨rfl, H.below⟩
/-- a new heap -/
def RetHeap (w : World) (n : Nat) (e : Ending) (w' : World) : Prop := ∃ gh gm, e = .returned (.tuple #[.pointer (some ⟨gh, 0, none⟩), .int .i64 0]) ∧ Hp w w' [ghI gh gm ⟨n, [], 0⟩, gmI gm ⟨n, [], 0⟩]
theorem hnew_yes (n : Nat) (w : World) (h1 : 1 ≤ n) (h2 : n ≤ 8) : Calls Try.prog 21 #[.int .i64 n] w (RetHeap w n) := by
  have H := Hp.nil w
  go_enter Try.func21, Try.ntmps21
  go_wp2_with (first | ((with_reducible refine Hp.box H ?_); (first | refine ⟨rfl, [.pointer _], rfl, ?_⟩ | refine ⟨rfl, [.int _ _], rfl, ?_⟩ | refine ⟨rfl, [.slice _ _ _], rfl, ?_⟩ | refine ⟨rfl, [.bool _], rfl, ?_⟩ | refine ⟨rfl, [.string _], rfl, ?_⟩ | refine ⟨rfl, _, rfl, ?_⟩); (clear H; intro g1 w1 H); go_frame) | ((with_reducible refine Hp.allo H ?_); refine ⟨rfl, ?_⟩; refine ⟨_, z_look rfl, ?_⟩; (clear H; intro g1 w1 H); go_frame) | ((with_reducible refine Hp.ld H ?_); refine ⟨rfl, ?_⟩; refine ⟨c_look rfl, ?_⟩; refine ⟨_, _, rfl, ?_⟩; ((repeat ((fail_if_success refine ⟨_, _, _, .z, ?_⟩); refine hs ?_)); refine ⟨_, _, _, .z, ?_⟩); refine ⟨_, rfl, ?_⟩; go_frame) | ((with_reducible refine Hp.lda H ?_); refine ⟨rfl, by kernel_rfl, ?_⟩; refine ⟨_, s_look rfl, ?_⟩; refine ⟨_, rfl, ?_⟩; ((repeat ((fail_if_success refine ⟨_, _, _, .z, ?_⟩); refine hs ?_)); refine ⟨_, _, _, .z, ?_⟩); refine ⟨rfl, ?_⟩; go_frame) | ((with_reducible refine Hp.lds H ?_); refine ⟨rfl, by kernel_rfl, ?_⟩; refine ⟨_, s_look rfl, ?_⟩; refine ⟨_, _, rfl, ?_⟩; ((repeat ((fail_if_success refine ⟨_, _, _, .z, ?_⟩); refine hs ?_)); refine ⟨_, _, _, .z, ?_⟩); (first | refine ⟨[_, _], rfl, rfl, ?_⟩ | refine ⟨[_, _, _, _], rfl, rfl, ?_⟩ | refine ⟨[_, _, _, _, _, _, _], rfl, rfl, ?_⟩ | refine ⟨[_, _, _], rfl, rfl, ?_⟩ | (fail)); go_frame) | ((with_reducible refine Hp.sto H ?_); refine ⟨rfl, ?_⟩; refine ⟨c_look rfl, ?_⟩; refine ⟨_, _, rfl, ?_⟩; ((repeat ((fail_if_success refine ⟨_, _, _, .z, ?_⟩); refine hs ?_)); refine ⟨_, _, _, .z, ?_⟩); refine ⟨⟨_, rfl⟩, rfl, ?_⟩; (clear H; intro w1 H; simp only [List.set] at H); go_frame) | ((with_reducible refine Hp.sta H ?_); refine ⟨rfl, ?_⟩; refine ⟨_, s_look rfl, ?_⟩; refine ⟨_, rfl, _, rfl, rfl, ?_⟩; ((repeat ((fail_if_success refine ⟨_, _, _, .z, ?_⟩); refine hs ?_)); refine ⟨_, _, _, .z, ?_⟩); refine ⟨rfl, rfl, ?_⟩; (clear H; intro w1 H; simp only [List.set] at H); go_frame) | ((with_reducible refine Hp.str H ?_); refine ⟨rfl, ?_⟩; refine ⟨_, s_look rfl, ?_⟩; refine ⟨_, _, rfl, _, rfl, rfl, ?_⟩; ((repeat ((fail_if_success refine ⟨_, _, _, .z, ?_⟩); refine hs ?_)); refine ⟨_, _, _, .z, ?_⟩); refine ⟨rfl, _, rfl, _, rfl, Nat.le_of_ble_eq_true rfl, ?_⟩; (clear H; intro w1 H; simp only [List.set] at H); go_frame) | ((with_reducible refine Hp.bdl (t := 38) (parts := [_, _]) H ?_); refine ⟨rfl, _, b_heap _ _, ?_⟩; go_frame) | ((with_reducible refine Hp.mkMap H ?_); refine ⟨rfl, ?_⟩; (clear H; intro gm w1 H); go_frame))
  go_ret2
  exact ⟨_, _, rfl, H⟩
/-! Lose. -/
/-- a number; the heap -/
def RetHW (w0 : World) (L : List Item) (k : Int) (e : Ending) (w' : World) : Prop := e = .returned (.int .i64 k) ∧ Hp w0 w' L
theorem wl_del {a : Act} {w0 w : World} {Q : Exit → Act → World → Prop} {L : List Item} {ops : Array Oper} {rest : List Oper} {d : Option Tmp} {tt : TypeId} {ps : String} {af : Array Edge} {gd : Option (Nat × Bool)} {x y : Operand} (H : Hp w0 w L)
    (h : Region.wanted { dst := d, op := .call { callee := .builtin .delete, args := #[x, y], argTypes := #[36, 3] }, type := tt, pos := ps, after := af, guard := gd } (yielded ops a.tmps) = true ∧ ∃ r k ms cl i, a.eval x = .map (some r) ∧ a.eval y = .int .i64 k ∧ L[i]? = some (.obj r (.map (ms.map mE).toArray cl)) ∧
      ∀ w', Hp w0 w' (L.set i (.obj r (.map ((delI k ms).map mE).toArray cl))) → wpList Try.prog ops Q rest (a.put d (.tuple #[])) w') :
    wpList Try.prog ops Q ({ dst := d, op := .call { callee := .builtin .delete, args := #[x, y], argTypes := #[36, 3] }, type := tt, pos := ps, after := af, guard := gd } :: rest) a w := by
  obtain ⟨h1, r, k, ms, cl, i, hx, hy, hL, hk⟩ := h
  have hr := run_delI (P := Try.prog) map_u int_u (H.ob i hL) k 3 tt
  refine BigFrame.wpList_want h1 fun K hK => ?_
  unfold Oper.wp execOp
  simp only [resolve, invoke, builtin, Sem.run_bind, Sem.run_pure, Result.andThen_ok, List.map_toArray, List.map_cons, List.map_nil, hx, hy, hr]
  exact hK _ _ (hk _ (H.setObj i hL _))
set_option maxHeartbeats 1000000 in
theorem hlose_no {w0 : World} {gh gm : Nat} {s : Hs} {L : List Item} (k : Int) (w : World) (H : Hp w0 w (ghI gh gm s :: gmI gm s :: L)) (hn : 0 < s.n) (h : k < 0 ∨ (s.n : Int) ≤ k) :
    Calls Try.prog 19 #[.pointer (some ⟨gh, 0, none⟩), .int .i64 k] w (RetHW w0 (ghI gh gm s :: gmI gm s :: L) 2) := by
  have hn0 : ((s.n : Int) == 0) = false := by rw [beq_eq_false_iff_ne]; omega
  by_cases h1 : k < 0
  · go_enter Try.func19, Try.ntmps19
    go_wp2_with (first | ((with_reducible refine Hp.box H ?_); (first | refine ⟨rfl, [.pointer _], rfl, ?_⟩ | refine ⟨rfl, [.int _ _], rfl, ?_⟩ | refine ⟨rfl, [.slice _ _ _], rfl, ?_⟩ | refine ⟨rfl, [.bool _], rfl, ?_⟩ | refine ⟨rfl, [.string _], rfl, ?_⟩ | refine ⟨rfl, _, rfl, ?_⟩); (clear H; intro g1 w1 H); go_frame) | ((with_reducible refine Hp.allo H ?_); refine ⟨rfl, ?_⟩; refine ⟨_, z_look rfl, ?_⟩; (clear H; intro g1 w1 H); go_frame) | ((with_reducible refine Hp.ld H ?_); refine ⟨rfl, ?_⟩; refine ⟨c_look rfl, ?_⟩; refine ⟨_, _, rfl, ?_⟩; ((repeat ((fail_if_success refine ⟨_, _, _, .z, ?_⟩); refine hs ?_)); refine ⟨_, _, _, .z, ?_⟩); refine ⟨_, rfl, ?_⟩; go_frame) | ((with_reducible refine Hp.lda H ?_); refine ⟨rfl, by kernel_rfl, ?_⟩; refine ⟨_, s_look rfl, ?_⟩; refine ⟨_, rfl, ?_⟩; ((repeat ((fail_if_success refine ⟨_, _, _, .z, ?_⟩); refine hs ?_)); refine ⟨_, _, _, .z, ?_⟩); refine ⟨rfl, ?_⟩; go_frame) | ((with_reducible refine Hp.lds H ?_); refine ⟨rfl, by kernel_rfl, ?_⟩; refine ⟨_, s_look rfl, ?_⟩; refine ⟨_, _, rfl, ?_⟩; ((repeat ((fail_if_success refine ⟨_, _, _, .z, ?_⟩); refine hs ?_)); refine ⟨_, _, _, .z, ?_⟩); (first | refine ⟨[_, _], rfl, rfl, ?_⟩ | refine ⟨[_, _, _, _], rfl, rfl, ?_⟩ | refine ⟨[_, _, _, _, _, _, _], rfl, rfl, ?_⟩ | refine ⟨[_, _, _], rfl, rfl, ?_⟩ | (fail)); go_frame) | ((with_reducible refine Hp.sto H ?_); refine ⟨rfl, ?_⟩; refine ⟨c_look rfl, ?_⟩; refine ⟨_, _, rfl, ?_⟩; ((repeat ((fail_if_success refine ⟨_, _, _, .z, ?_⟩); refine hs ?_)); refine ⟨_, _, _, .z, ?_⟩); refine ⟨⟨_, rfl⟩, rfl, ?_⟩; (clear H; intro w1 H; simp only [List.set] at H); go_frame) | ((with_reducible refine Hp.sta H ?_); refine ⟨rfl, ?_⟩; refine ⟨_, s_look rfl, ?_⟩; refine ⟨_, rfl, _, rfl, rfl, ?_⟩; ((repeat ((fail_if_success refine ⟨_, _, _, .z, ?_⟩); refine hs ?_)); refine ⟨_, _, _, .z, ?_⟩); refine ⟨rfl, rfl, ?_⟩; (clear H; intro w1 H; simp only [List.set] at H); go_frame) | ((with_reducible refine Hp.str H ?_); refine ⟨rfl, ?_⟩; refine ⟨_, s_look rfl, ?_⟩; refine ⟨_, _, rfl, _, rfl, rfl, ?_⟩; ((repeat ((fail_if_success refine ⟨_, _, _, .z, ?_⟩); refine hs ?_)); refine ⟨_, _, _, .z, ?_⟩); refine ⟨rfl, _, rfl, _, rfl, Nat.le_of_ble_eq_true rfl, ?_⟩; (clear H; intro w1 H; simp only [List.set] at H); go_frame) | ((with_reducible refine Hp.bdl (t := 38) (parts := [_, _]) H ?_); refine ⟨rfl, _, b_heap _ _, ?_⟩; go_frame) | ((with_reducible refine (hnone_made gh s.n _ (H.c 0 rfl 0 rfl) hn0).mono ?_); rintro _ w1 ⟨rfl, hb⟩; replace H := H.call hb; clear hb) | ((with_reducible refine wl_del H ?_); refine ⟨rfl, gm, k, s.es, s.cl, 1, rfl, rfl, rfl, ?_⟩; (clear H; intro w1 H); (simp only [List.set_cons_succ, List.set_cons_zero] at H); go_frame))
    go_ret
    exact ⟨rfl, H⟩
  · have h2 : (s.n : Int) ≤ k := by omega
    have d1 : decide (k < 0) = false := decide_eq_false h1
    go_enter Try.func19, Try.ntmps19
    go_wp2_with (first | ((with_reducible refine Hp.box H ?_); (first | refine ⟨rfl, [.pointer _], rfl, ?_⟩ | refine ⟨rfl, [.int _ _], rfl, ?_⟩ | refine ⟨rfl, [.slice _ _ _], rfl, ?_⟩ | refine ⟨rfl, [.bool _], rfl, ?_⟩ | refine ⟨rfl, [.string _], rfl, ?_⟩ | refine ⟨rfl, _, rfl, ?_⟩); (clear H; intro g1 w1 H); go_frame) | ((with_reducible refine Hp.allo H ?_); refine ⟨rfl, ?_⟩; refine ⟨_, z_look rfl, ?_⟩; (clear H; intro g1 w1 H); go_frame) | ((with_reducible refine Hp.ld H ?_); refine ⟨rfl, ?_⟩; refine ⟨c_look rfl, ?_⟩; refine ⟨_, _, rfl, ?_⟩; ((repeat ((fail_if_success refine ⟨_, _, _, .z, ?_⟩); refine hs ?_)); refine ⟨_, _, _, .z, ?_⟩); refine ⟨_, rfl, ?_⟩; go_frame) | ((with_reducible refine Hp.lda H ?_); refine ⟨rfl, by kernel_rfl, ?_⟩; refine ⟨_, s_look rfl, ?_⟩; refine ⟨_, rfl, ?_⟩; ((repeat ((fail_if_success refine ⟨_, _, _, .z, ?_⟩); refine hs ?_)); refine ⟨_, _, _, .z, ?_⟩); refine ⟨rfl, ?_⟩; go_frame) | ((with_reducible refine Hp.lds H ?_); refine ⟨rfl, by kernel_rfl, ?_⟩; refine ⟨_, s_look rfl, ?_⟩; refine ⟨_, _, rfl, ?_⟩; ((repeat ((fail_if_success refine ⟨_, _, _, .z, ?_⟩); refine hs ?_)); refine ⟨_, _, _, .z, ?_⟩); (first | refine ⟨[_, _], rfl, rfl, ?_⟩ | refine ⟨[_, _, _, _], rfl, rfl, ?_⟩ | refine ⟨[_, _, _, _, _, _, _], rfl, rfl, ?_⟩ | refine ⟨[_, _, _], rfl, rfl, ?_⟩ | (fail)); go_frame) | ((with_reducible refine Hp.sto H ?_); refine ⟨rfl, ?_⟩; refine ⟨c_look rfl, ?_⟩; refine ⟨_, _, rfl, ?_⟩; ((repeat ((fail_if_success refine ⟨_, _, _, .z, ?_⟩); refine hs ?_)); refine ⟨_, _, _, .z, ?_⟩); refine ⟨⟨_, rfl⟩, rfl, ?_⟩; (clear H; intro w1 H; simp only [List.set] at H); go_frame) | ((with_reducible refine Hp.sta H ?_); refine ⟨rfl, ?_⟩; refine ⟨_, s_look rfl, ?_⟩; refine ⟨_, rfl, _, rfl, rfl, ?_⟩; ((repeat ((fail_if_success refine ⟨_, _, _, .z, ?_⟩); refine hs ?_)); refine ⟨_, _, _, .z, ?_⟩); refine ⟨rfl, rfl, ?_⟩; (clear H; intro w1 H; simp only [List.set] at H); go_frame) | ((with_reducible refine Hp.str H ?_); refine ⟨rfl, ?_⟩; refine ⟨_, s_look rfl, ?_⟩; refine ⟨_, _, rfl, _, rfl, rfl, ?_⟩; ((repeat ((fail_if_success refine ⟨_, _, _, .z, ?_⟩); refine hs ?_)); refine ⟨_, _, _, .z, ?_⟩); refine ⟨rfl, _, rfl, _, rfl, Nat.le_of_ble_eq_true rfl, ?_⟩; (clear H; intro w1 H; simp only [List.set] at H); go_frame) | ((with_reducible refine Hp.bdl (t := 38) (parts := [_, _]) H ?_); refine ⟨rfl, _, b_heap _ _, ?_⟩; go_frame) | ((with_reducible refine (hnone_made gh s.n _ (H.c 0 rfl 0 rfl) hn0).mono ?_); rintro _ w1 ⟨rfl, hb⟩; replace H := H.call hb; clear hb) | ((with_reducible refine wl_del H ?_); refine ⟨rfl, gm, k, s.es, s.cl, 1, rfl, rfl, rfl, ?_⟩; (clear H; intro w1 H); (simp only [List.set_cons_succ, List.set_cons_zero] at H); go_frame))
    go_ret
    exact ⟨rfl, H⟩
set_option maxHeartbeats 1000000 in
theorem hlose_yes {w0 : World} {gh gm : Nat} {s : Hs} {L : List Item} (k : Int) (w : World) (H : Hp w0 w (ghI gh gm s :: gmI gm s :: L)) (hn : 0 < s.n) (h1 : 0 ≤ k) (h2 : k < (s.n : Int)) :
    Calls Try.prog 19 #[.pointer (some ⟨gh, 0, none⟩), .int .i64 k] w (RetHW w0 (ghI gh gm (s.del k) :: gmI gm (s.del k) :: L) 0) := by
  have hn0 : ((s.n : Int) == 0) = false := by rw [beq_eq_false_iff_ne]; omega
  have d1 : decide (k < 0) = false := decide_eq_false (by omega)
  go_enter Try.func19, Try.ntmps19
  go_wp2_with (first | ((with_reducible refine Hp.box H ?_); (first | refine ⟨rfl, [.pointer _], rfl, ?_⟩ | refine ⟨rfl, [.int _ _], rfl, ?_⟩ | refine ⟨rfl, [.slice _ _ _], rfl, ?_⟩ | refine ⟨rfl, [.bool _], rfl, ?_⟩ | refine ⟨rfl, [.string _], rfl, ?_⟩ | refine ⟨rfl, _, rfl, ?_⟩); (clear H; intro g1 w1 H); go_frame) | ((with_reducible refine Hp.allo H ?_); refine ⟨rfl, ?_⟩; refine ⟨_, z_look rfl, ?_⟩; (clear H; intro g1 w1 H); go_frame) | ((with_reducible refine Hp.ld H ?_); refine ⟨rfl, ?_⟩; refine ⟨c_look rfl, ?_⟩; refine ⟨_, _, rfl, ?_⟩; ((repeat ((fail_if_success refine ⟨_, _, _, .z, ?_⟩); refine hs ?_)); refine ⟨_, _, _, .z, ?_⟩); refine ⟨_, rfl, ?_⟩; go_frame) | ((with_reducible refine Hp.lda H ?_); refine ⟨rfl, by kernel_rfl, ?_⟩; refine ⟨_, s_look rfl, ?_⟩; refine ⟨_, rfl, ?_⟩; ((repeat ((fail_if_success refine ⟨_, _, _, .z, ?_⟩); refine hs ?_)); refine ⟨_, _, _, .z, ?_⟩); refine ⟨rfl, ?_⟩; go_frame) | ((with_reducible refine Hp.lds H ?_); refine ⟨rfl, by kernel_rfl, ?_⟩; refine ⟨_, s_look rfl, ?_⟩; refine ⟨_, _, rfl, ?_⟩; ((repeat ((fail_if_success refine ⟨_, _, _, .z, ?_⟩); refine hs ?_)); refine ⟨_, _, _, .z, ?_⟩); (first | refine ⟨[_, _], rfl, rfl, ?_⟩ | refine ⟨[_, _, _, _], rfl, rfl, ?_⟩ | refine ⟨[_, _, _, _, _, _, _], rfl, rfl, ?_⟩ | refine ⟨[_, _, _], rfl, rfl, ?_⟩ | (fail)); go_frame) | ((with_reducible refine Hp.sto H ?_); refine ⟨rfl, ?_⟩; refine ⟨c_look rfl, ?_⟩; refine ⟨_, _, rfl, ?_⟩; ((repeat ((fail_if_success refine ⟨_, _, _, .z, ?_⟩); refine hs ?_)); refine ⟨_, _, _, .z, ?_⟩); refine ⟨⟨_, rfl⟩, rfl, ?_⟩; (clear H; intro w1 H; simp only [List.set] at H); go_frame) | ((with_reducible refine Hp.sta H ?_); refine ⟨rfl, ?_⟩; refine ⟨_, s_look rfl, ?_⟩; refine ⟨_, rfl, _, rfl, rfl, ?_⟩; ((repeat ((fail_if_success refine ⟨_, _, _, .z, ?_⟩); refine hs ?_)); refine ⟨_, _, _, .z, ?_⟩); refine ⟨rfl, rfl, ?_⟩; (clear H; intro w1 H; simp only [List.set] at H); go_frame) | ((with_reducible refine Hp.str H ?_); refine ⟨rfl, ?_⟩; refine ⟨_, s_look rfl, ?_⟩; refine ⟨_, _, rfl, _, rfl, rfl, ?_⟩; ((repeat ((fail_if_success refine ⟨_, _, _, .z, ?_⟩); refine hs ?_)); refine ⟨_, _, _, .z, ?_⟩); refine ⟨rfl, _, rfl, _, rfl, Nat.le_of_ble_eq_true rfl, ?_⟩; (clear H; intro w1 H; simp only [List.set] at H); go_frame) | ((with_reducible refine Hp.bdl (t := 38) (parts := [_, _]) H ?_); refine ⟨rfl, _, b_heap _ _, ?_⟩; go_frame) | ((with_reducible refine (hnone_made gh s.n _ (H.c 0 rfl 0 rfl) hn0).mono ?_); rintro _ w1 ⟨rfl, hb⟩; replace H := H.call hb; clear hb) | ((with_reducible refine wl_del H ?_); refine ⟨rfl, gm, k, s.es, s.cl, 1, rfl, rfl, rfl, ?_⟩; (clear H; intro w1 H); (simp only [List.set_cons_succ, List.set_cons_zero] at H); go_frame))
  go_ret
  refine ⟨rfl, ?_⟩
  unfold Hs.del gmI Hs.es
  rw [delM_es]
  exact H
end Go.Proofs.Ytanpglhpmfdnmaa
