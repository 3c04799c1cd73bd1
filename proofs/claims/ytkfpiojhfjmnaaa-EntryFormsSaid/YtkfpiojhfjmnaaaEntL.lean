/-
  THE WALKS OF sextonlaw09's great, awake.
-/
import Derived.Test.YtkfpiojhfjmnaaaEntQ
import Derived.Test.YtkfpiojhfjmnaaaHeapF
import Derived.Test.YtkfpiojhfjmnaaaSC
namespace Go.Proofs.Ytkfpiojhfjmnaaa
open Go.RowKit
set_option linter.unusedVariables false
set_option linter.unusedSimpArgs false
def grB (e : En) : Bool := decide ((300 : Int) < e.s0.size) || (decide ((300 : Int) < e.s1.size) || decide ((300 : Int) < e.s2.size))
set_option maxHeartbeats 2000000 in
theorem great_any (e : En) (w : World) (hs : Sm e) : Calls Try.prog 9 #[.agg (enC e).toArray] w (RetV w (.bool (grB e))) := by
  have H := Hp.nil w
  obtain ⟨h0, h1, h2⟩ := hs
  unfold maxLen at h0 h1 h2
  cases d0 : decide ((300 : Int) < e.s0.size)
  · cases d1 : decide ((300 : Int) < e.s1.size)
    all_goals
      cases d2 : decide ((300 : Int) < e.s2.size)
      all_goals
        go_enter Try.func9, Try.ntmps9
        go_wp2_with (first | ((with_reducible refine Hp.box H ?_); refine ⟨rfl, _, rfl, ?_⟩; (clear H; intro g1 w1 H); go_frame) | ((with_reducible refine Hp.allo H ?_); refine ⟨rfl, ?_⟩; refine ⟨_, z_look rfl, ?_⟩; (clear H; intro g1 w1 H); go_frame) | ((with_reducible refine Hp.ld H ?_); refine ⟨rfl, ?_⟩; refine ⟨c_look rfl, ?_⟩; refine ⟨_, _, rfl, ?_⟩; ((repeat ((fail_if_success refine ⟨_, _, _, .z, ?_⟩); refine hs ?_)); refine ⟨_, _, _, .z, ?_⟩); refine ⟨_, rfl, ?_⟩; go_frame) | ((with_reducible refine Hp.lda H ?_); refine ⟨rfl, by kernel_rfl, ?_⟩; refine ⟨_, s_look rfl, ?_⟩; refine ⟨_, rfl, ?_⟩; ((repeat ((fail_if_success refine ⟨_, _, _, .z, ?_⟩); refine hs ?_)); refine ⟨_, _, _, .z, ?_⟩); refine ⟨rfl, ?_⟩; go_frame) | ((with_reducible refine Hp.lds H ?_); refine ⟨rfl, by kernel_rfl, ?_⟩; refine ⟨_, s_look rfl, ?_⟩; refine ⟨_, _, rfl, ?_⟩; ((repeat ((fail_if_success refine ⟨_, _, _, .z, ?_⟩); refine hs ?_)); refine ⟨_, _, _, .z, ?_⟩); (first | refine ⟨[_, _], rfl, rfl, ?_⟩ | refine ⟨[_, _, _, _], rfl, rfl, ?_⟩ | refine ⟨[_, _, _, _, _, _, _], rfl, rfl, ?_⟩ | refine ⟨[_, _, _], rfl, rfl, ?_⟩ | (fail)); go_frame) | ((with_reducible refine Hp.stv H ?_); refine ⟨rfl, ?_⟩; refine ⟨c_look rfl, ?_⟩; (first | refine ⟨.bool _, rfl, ?_⟩ | refine ⟨.int _ _, rfl, ?_⟩ | refine ⟨.string _, rfl, ?_⟩ | refine ⟨.slice _ _ _, rfl, ?_⟩ | refine ⟨.pointer _, rfl, ?_⟩); refine ⟨rfl, _, _, rfl, ?_⟩; ((repeat ((fail_if_success refine ⟨_, _, _, .z, ?_⟩); refine hs ?_)); refine ⟨_, _, _, .z, ?_⟩); refine ⟨⟨_, rfl⟩, ?_⟩; (clear H; intro w1 H; simp only [List.set] at H); go_frame) | ((with_reducible refine Hp.sta H ?_); refine ⟨rfl, ?_⟩; refine ⟨_, s_look rfl, ?_⟩; refine ⟨_, rfl, _, rfl, rfl, ?_⟩; ((repeat ((fail_if_success refine ⟨_, _, _, .z, ?_⟩); refine hs ?_)); refine ⟨_, _, _, .z, ?_⟩); refine ⟨rfl, rfl, ?_⟩; (clear H; intro w1 H; simp only [List.set] at H); go_frame) | ((with_reducible refine Hp.str H ?_); refine ⟨rfl, ?_⟩; refine ⟨_, s_look rfl, ?_⟩; refine ⟨_, _, rfl, _, rfl, rfl, ?_⟩; ((repeat ((fail_if_success refine ⟨_, _, _, .z, ?_⟩); refine hs ?_)); refine ⟨_, _, _, .z, ?_⟩); refine ⟨rfl, _, rfl, _, rfl, Nat.le_of_ble_eq_true rfl, ?_⟩; (clear H; intro w1 H; simp only [List.set] at H); go_frame) | ((with_reducible refine Hp.bdl H ?_); (fail); go_frame) | (fail))
        go_ret
        exact ⟨ret_bool (by rw [grB, d0, d1, d2]; rfl), H.below⟩
  · go_enter Try.func9, Try.ntmps9
    go_wp2_with (first | ((with_reducible refine Hp.box H ?_); refine ⟨rfl, _, rfl, ?_⟩; (clear H; intro g1 w1 H); go_frame) | ((with_reducible refine Hp.allo H ?_); refine ⟨rfl, ?_⟩; refine ⟨_, z_look rfl, ?_⟩; (clear H; intro g1 w1 H); go_frame) | ((with_reducible refine Hp.ld H ?_); refine ⟨rfl, ?_⟩; refine ⟨c_look rfl, ?_⟩; refine ⟨_, _, rfl, ?_⟩; ((repeat ((fail_if_success refine ⟨_, _, _, .z, ?_⟩); refine hs ?_)); refine ⟨_, _, _, .z, ?_⟩); refine ⟨_, rfl, ?_⟩; go_frame) | ((with_reducible refine Hp.lda H ?_); refine ⟨rfl, by kernel_rfl, ?_⟩; refine ⟨_, s_look rfl, ?_⟩; refine ⟨_, rfl, ?_⟩; ((repeat ((fail_if_success refine ⟨_, _, _, .z, ?_⟩); refine hs ?_)); refine ⟨_, _, _, .z, ?_⟩); refine ⟨rfl, ?_⟩; go_frame) | ((with_reducible refine Hp.lds H ?_); refine ⟨rfl, by kernel_rfl, ?_⟩; refine ⟨_, s_look rfl, ?_⟩; refine ⟨_, _, rfl, ?_⟩; ((repeat ((fail_if_success refine ⟨_, _, _, .z, ?_⟩); refine hs ?_)); refine ⟨_, _, _, .z, ?_⟩); (first | refine ⟨[_, _], rfl, rfl, ?_⟩ | refine ⟨[_, _, _, _], rfl, rfl, ?_⟩ | refine ⟨[_, _, _, _, _, _, _], rfl, rfl, ?_⟩ | refine ⟨[_, _, _], rfl, rfl, ?_⟩ | (fail)); go_frame) | ((with_reducible refine Hp.stv H ?_); refine ⟨rfl, ?_⟩; refine ⟨c_look rfl, ?_⟩; (first | refine ⟨.bool _, rfl, ?_⟩ | refine ⟨.int _ _, rfl, ?_⟩ | refine ⟨.string _, rfl, ?_⟩ | refine ⟨.slice _ _ _, rfl, ?_⟩ | refine ⟨.pointer _, rfl, ?_⟩); refine ⟨rfl, _, _, rfl, ?_⟩; ((repeat ((fail_if_success refine ⟨_, _, _, .z, ?_⟩); refine hs ?_)); refine ⟨_, _, _, .z, ?_⟩); refine ⟨⟨_, rfl⟩, ?_⟩; (clear H; intro w1 H; simp only [List.set] at H); go_frame) | ((with_reducible refine Hp.sta H ?_); refine ⟨rfl, ?_⟩; refine ⟨_, s_look rfl, ?_⟩; refine ⟨_, rfl, _, rfl, rfl, ?_⟩; ((repeat ((fail_if_success refine ⟨_, _, _, .z, ?_⟩); refine hs ?_)); refine ⟨_, _, _, .z, ?_⟩); refine ⟨rfl, rfl, ?_⟩; (clear H; intro w1 H; simp only [List.set] at H); go_frame) | ((with_reducible refine Hp.str H ?_); refine ⟨rfl, ?_⟩; refine ⟨_, s_look rfl, ?_⟩; refine ⟨_, _, rfl, _, rfl, rfl, ?_⟩; ((repeat ((fail_if_success refine ⟨_, _, _, .z, ?_⟩); refine hs ?_)); refine ⟨_, _, _, .z, ?_⟩); refine ⟨rfl, _, rfl, _, rfl, Nat.le_of_ble_eq_true rfl, ?_⟩; (clear H; intro w1 H; simp only [List.set] at H); go_frame) | ((with_reducible refine Hp.bdl H ?_); (fail); go_frame) | (fail))
    go_ret
    exact ⟨ret_bool (by rw [grB, d0]; rfl), H.below⟩
theorem great_b (e : En) (w : World) (b : Bool) (hb : grB e = b) (hs : Sm e) : Calls Try.prog 9 #[.agg (enC e).toArray] w (RetV w (.bool b)) := by
  subst hb
  exact great_any e w hs
theorem gr_sm {e : En} (h : grB e = false) : e.s0.size ≤ 300 ∧ e.s1.size ≤ 300 ∧ e.s2.size ≤ 300 := by
  simp only [grB, Bool.or_eq_false_iff, decide_eq_false_iff_not] at h
  omega
def ks : ByteArray := ⟨#[107]⟩
def vs : ByteArray := ⟨#[118]⟩
def pE : En := ⟨2, 2, 3, 2, ks, .empty, vs⟩
def gE : En := ⟨2, 2, 3, 1, ks, .empty, .empty⟩
theorem mt_empty : mtB .empty = true := by rw [mtB, empty_toList]; rfl
theorem mt_ks : mtB ks = false := by rw [mtB, ByteArray.toList_eq]; rfl
theorem pE_op : mayOpB 2 ks .empty vs = true := by
  unfold mayOpB
  rw [mt_empty]
  rfl
theorem gE_op : mayOpB 1 ks .empty .empty = true := by
  unfold mayOpB
  rw [mt_empty]
  rfl
theorem nE_op : mayOpB 2 .empty .empty .empty = false := by
  unfold mayOpB
  rw [mt_empty]
  rfl
theorem pE_may : mayB pE = true := by
  unfold mayB
  rw [show mayOpB pE.ok pE.s0 pE.s1 pE.s2 = true from pE_op]
  have : isNoop pE = false := rfl
  rw [this]
  rfl
theorem gE_may : mayB gE = false := by
  unfold mayB
  rw [show mayOpB gE.ok gE.s0 gE.s1 gE.s2 = true from gE_op]
  have : isNoop gE = false := rfl
  rw [this]
  rfl
theorem no_may : mayB noop = true := by
  unfold mayB isNoop noop
  rw [mt_empty]
  rfl
theorem entL_pE : entL pE = [2, 2, 3, 0, 0, 0, 0, 0, 2, 1, 107, 0, 1, 118] := by decide +kernel
theorem entL_no : entL noop = [1] := by decide +kernel
theorem sm_pE : Sm pE := (may_sm pE_may).1
theorem sm_gE : Sm gE := ⟨by unfold maxLen; decide, by unfold maxLen; decide, by unfold maxLen; decide⟩
theorem sm_no : Sm noop := (may_sm no_may).1
theorem u8_pE : U8 pE := (may_sm pE_may).2
theorem u8_gE : U8 gE := ⟨by decide, by decide, by decide, by decide⟩
theorem u8_no : U8 noop := (may_sm no_may).2
theorem by_no (w : World) : Calls Try.prog 10 #[.agg (enC noop).toArray] w (RetBI w [1] 0) := by
  have := ebytes_any noop sm_no u8_no w
  unfold bytesL bytesE at this
  rwa [no_may, if_pos rfl, if_pos rfl, entL_no] at this
theorem by_pE (w : World) : Calls Try.prog 10 #[.agg (enC pE).toArray] w (RetBI w [2, 2, 3, 0, 0, 0, 0, 0, 2, 1, 107, 0, 1, 118] 0) := by
  have := ebytes_any pE sm_pE u8_pE w
  unfold bytesL bytesE at this
  rwa [pE_may, if_pos rfl, if_pos rfl, entL_pE] at this
theorem by_gE (w : World) : Calls Try.prog 10 #[.agg (enC gE).toArray] w (RetBI w [] 2) := by
  have := ebytes_any gE sm_gE u8_gE w
  unfold bytesL bytesE at this
  rwa [gE_may, if_neg (by decide), if_neg (by decide)] at this
theorem rd_pE : erE [2, 2, 3, 0, 0, 0, 0, 0, 2, 1, 107, 0, 1, 118] 0 = 0 ∧ erV [2, 2, 3, 0, 0, 0, 0, 0, 2, 1, 107, 0, 1, 118] 0 = pE ∧ erN [2, 2, 3, 0, 0, 0, 0, 0, 2, 1, 107, 0, 1, 118] 0 = 14 := by
  have := er_put pE_may [] []
  rw [entL_pE] at this
  exact this
section
variable {a : Act} {w0 w : World} {Q : Exit → Act → World → Prop} {L : List Item} {ops : Array Oper} {rest : List Oper} {d : Option Tmp} {tt t2 : TypeId} {x y : Operand} {ps : String} {af : Array Edge} {gd : Option (Nat × Bool)}
theorem wl_eqEnB (h : Region.wanted { dst := d, op := .binOp .eql 27 x y t2, type := tt, pos := ps, after := af, guard := gd } (yielded ops a.tmps) = true ∧ ∃ u v, a.eval x = .agg (enC u).toArray ∧ a.eval y = .agg (enC v).toArray ∧ ∃ b, enEq u v = b ∧ wpList Try.prog ops Q rest (a.put d (.bool b)) w) :
    wpList Try.prog ops Q ({ dst := d, op := .binOp .eql 27 x y t2, type := tt, pos := ps, after := af, guard := gd } :: rest) a w := by
  obtain ⟨h1, u, v, hx, hy, b, rfl, h2⟩ := h
  exact wl_val _ h1 (ex_eqEn rfl hx hy) h2
theorem wl_neEnB (h : Region.wanted { dst := d, op := .binOp .neq 27 x y t2, type := tt, pos := ps, after := af, guard := gd } (yielded ops a.tmps) = true ∧ ∃ u v, a.eval x = .agg (enC u).toArray ∧ a.eval y = .agg (enC v).toArray ∧ ∃ b, (!enEq u v) = b ∧ wpList Try.prog ops Q rest (a.put d (.bool b)) w) :
    wpList Try.prog ops Q ({ dst := d, op := .binOp .neq 27 x y t2, type := tt, pos := ps, after := af, guard := gd } :: rest) a w := by
  obtain ⟨h1, u, v, hx, hy, b, rfl, h2⟩ := h
  exact wl_val _ h1 (ex_neEn rfl hx hy) h2
end
theorem neEn_self (e : En) : (!enEq e e) = false := by rw [enEq_self]; rfl
theorem b_opP : Try.prog.built 25 [(0, .int .u8 2), (1, .string ⟨#[107]⟩), (3, .string ⟨#[118]⟩)] = some (opC 2 ks .empty vs).toArray := by kernel_rfl
theorem b_opG : Try.prog.built 25 [(0, .int .u8 1), (1, .string ⟨#[107]⟩)] = some (opC 1 ks .empty .empty).toArray := by kernel_rfl
theorem b_opN : Try.prog.built 25 [(0, .int .u8 2)] = some (opC 2 .empty .empty .empty).toArray := by kernel_rfl
theorem b_enP : Try.prog.built 27 [(0, .int .u8 2), (1, .int .i64 2), (2, .int .i64 3), (3, .agg (opC 2 ks .empty vs).toArray)] = some (enC pE).toArray := by kernel_rfl
theorem rdP (A : Option Addr) (c : Nat) (w : World) (hr : Rd w A [2, 2, 3, 0, 0, 0, 0, 0, 2, 1, 107, 0, 1, 118]) (hc : 14 ≤ c ∧ c ≤ maxLen) : Calls Try.prog 20 #[.slice A 14 c, .int .i64 0] w (RetV w (.tuple #[.agg (enC pE).toArray, .int .i64 14, .int .i64 0])) :=
  eread_v A c [2, 2, 3, 0, 0, 0, 0, 0, 2, 1, 107, 0, 1, 118] 0 w pE 14 0 rd_pE.2.1 rd_pE.2.2 rd_pE.1 hr hc.1 hc.2
theorem ze : ByteArray.empty.size ≤ maxLen := Nat.zero_le _
theorem zk : ks.size ≤ maxLen := by unfold maxLen; decide
theorem moG (w : World) : Calls Try.prog 14 #[.agg (opC 1 ks .empty .empty).toArray] w (RetV w (.bool true)) := mayOp_b _ _ _ _ _ _ gE_op zk ze ze
theorem moN (w : World) : Calls Try.prog 14 #[.agg (opC 2 .empty .empty .empty).toArray] w (RetV w (.bool false)) := mayOp_b _ _ _ _ _ _ nE_op ze ze ze
theorem n1 : 1 = ([1] : List UInt8).length := rfl
theorem n14 : 14 = ([2, 2, 3, 0, 0, 0, 0, 0, 2, 1, 107, 0, 1, 118] : List UInt8).length := rfl
theorem l1 : ([1] : List UInt8).length ≤ maxLen := by unfold maxLen; decide
theorem l14 : ([2, 2, 3, 0, 0, 0, 0, 0, 2, 1, 107, 0, 1, 118] : List UInt8).length ≤ maxLen := by unfold maxLen; decide
set_option maxHeartbeats 2000000 in
theorem awake_any (w : World) : Calls Try.prog 24 #[] w (RetV w (.bool true)) := by
  have H := Hp.nil w
  go_enter Try.func24, Try.ntmps24
  go_wp2_with (first | ((with_reducible refine Hp.box H ?_); refine ⟨rfl, _, rfl, ?_⟩; (clear H; intro g1 w1 H); go_frame) | ((with_reducible refine Hp.allo H ?_); refine ⟨rfl, ?_⟩; refine ⟨_, z_look rfl, ?_⟩; (clear H; intro g1 w1 H); go_frame) | ((with_reducible refine Hp.ld H ?_); refine ⟨rfl, ?_⟩; refine ⟨c_look rfl, ?_⟩; refine ⟨_, _, rfl, ?_⟩; ((repeat ((fail_if_success refine ⟨_, _, _, .z, ?_⟩); refine hs ?_)); refine ⟨_, _, _, .z, ?_⟩); refine ⟨_, rfl, ?_⟩; go_frame) | ((with_reducible refine Hp.lda H ?_); refine ⟨rfl, by kernel_rfl, ?_⟩; refine ⟨_, s_look rfl, ?_⟩; refine ⟨_, rfl, ?_⟩; ((repeat ((fail_if_success refine ⟨_, _, _, .z, ?_⟩); refine hs ?_)); refine ⟨_, _, _, .z, ?_⟩); refine ⟨rfl, ?_⟩; go_frame) | ((with_reducible refine Hp.lds H ?_); refine ⟨rfl, by kernel_rfl, ?_⟩; refine ⟨_, s_look rfl, ?_⟩; refine ⟨_, _, rfl, ?_⟩; ((repeat ((fail_if_success refine ⟨_, _, _, .z, ?_⟩); refine hs ?_)); refine ⟨_, _, _, .z, ?_⟩); refine ⟨opC 1 ks .empty .empty, rfl, rfl, ?_⟩; go_frame) | ((with_reducible refine Hp.stv H ?_); refine ⟨rfl, ?_⟩; refine ⟨c_look rfl, ?_⟩; (first | refine ⟨.bool _, rfl, ?_⟩ | refine ⟨.int _ _, rfl, ?_⟩ | refine ⟨.string _, rfl, ?_⟩ | refine ⟨.slice _ _ _, rfl, ?_⟩ | refine ⟨.pointer _, rfl, ?_⟩); refine ⟨rfl, _, _, rfl, ?_⟩; ((repeat ((fail_if_success refine ⟨_, _, _, .z, ?_⟩); refine hs ?_)); refine ⟨_, _, _, .z, ?_⟩); refine ⟨⟨_, rfl⟩, ?_⟩; (clear H; intro w1 H; simp only [List.set] at H); go_frame) | ((with_reducible refine Hp.sta H ?_); refine ⟨rfl, ?_⟩; refine ⟨_, s_look rfl, ?_⟩; refine ⟨_, rfl, _, rfl, rfl, ?_⟩; ((repeat ((fail_if_success refine ⟨_, _, _, .z, ?_⟩); refine hs ?_)); refine ⟨_, _, _, .z, ?_⟩); refine ⟨rfl, rfl, ?_⟩; (clear H; intro w1 H; simp only [List.set] at H); go_frame) | ((with_reducible refine Hp.str H ?_); refine ⟨rfl, ?_⟩; refine ⟨_, s_look rfl, ?_⟩; refine ⟨_, _, rfl, _, rfl, rfl, ?_⟩; ((repeat ((fail_if_success refine ⟨_, _, _, .z, ?_⟩); refine hs ?_)); refine ⟨_, _, _, .z, ?_⟩); refine ⟨rfl, enC gE, rfl, _, rfl, Nat.le_of_ble_eq_true rfl, ?_⟩; (clear H; intro w1 H; simp only [List.set] at H); go_frame) | ((with_reducible refine Hp.bdl (t := 25) (parts := [_, _, _]) H ?_); refine ⟨rfl, _, b_opP, ?_⟩; go_frame) | ((with_reducible refine Hp.bdl (t := 25) (parts := [_, _]) H ?_); refine ⟨rfl, _, b_opG, ?_⟩; go_frame) | ((with_reducible refine Hp.bdl (t := 25) (parts := [_]) H ?_); refine ⟨rfl, _, b_opN, ?_⟩; go_frame) | ((with_reducible refine Hp.bdl (t := 27) (parts := [_, _, _, _]) H ?_); refine ⟨rfl, _, b_enP, ?_⟩; go_frame) | ((with_reducible refine Hp.bdl (t := 27) (parts := [_]) H ?_); refine ⟨rfl, _, b_noop, ?_⟩; go_frame) | ((with_reducible refine (by_no _).mono ?_); rintro _ w1 ⟨A1, c1, rfl, hown, hb⟩; replace H := H.callOwn hb hown; clear hb hown) | ((with_reducible refine (by_pE _).mono ?_); rintro _ w1 ⟨A1, c1, rfl, hown, hb⟩; replace H := H.callOwn hb hown; clear hb hown) | ((with_reducible refine (by_gE _).mono ?_); rintro _ w1 ⟨A1, c1, rfl, hown, hb⟩; replace H := H.callOwn hb hown; clear hb hown) | ((with_reducible refine (rdP _ _ _ (H.o 2 rfl).rd (H.o 2 rfl).caps).mono ?_); rintro _ w1 ⟨rfl, hb⟩; replace H := H.call hb; clear hb) | ((with_reducible refine Hp.bslB (parts := [_]) H ?_); refine ⟨rfl, rfl, rfl, bvs [1], rfl, [1], rfl, rfl, ?_⟩; (clear H; intro g1 w1 H); go_frame) | ((with_reducible refine Hp.bslB (parts := [_, _, _, _, _, _, _, _, _, _, _, _, _, _]) H ?_); refine ⟨rfl, rfl, rfl, bvs [2, 2, 3, 0, 0, 0, 0, 0, 2, 1, 107, 0, 1, 118], rfl, [2, 2, 3, 0, 0, 0, 0, 0, 2, 1, 107, 0, 1, 118], rfl, rfl, ?_⟩; (clear H; intro g1 w1 H); go_frame) | ((with_reducible refine (same_self _ _ _ _ [1] _ _ _ (H.o 5 rfl).rd (H.o 0 rfl).rd l1 n1 n1).mono ?_); rintro _ w1 ⟨rfl, hb⟩; replace H := H.call hb; clear hb) | ((with_reducible refine (same_self _ _ _ _ [2, 2, 3, 0, 0, 0, 0, 0, 2, 1, 107, 0, 1, 118] _ _ _ (H.o 5 rfl).rd (H.o 0 rfl).rd l14 n14 n14).mono ?_); rintro _ w1 ⟨rfl, hb⟩; replace H := H.call hb; clear hb) | ((with_reducible refine wl_eqEnB ?_); refine ⟨rfl, pE, pE, rfl, rfl, true, enEq_self pE, ?_⟩; go_frame) | ((with_reducible refine (moG _).mono ?_); rintro _ w1 ⟨rfl, hb⟩; replace H := H.call hb; clear hb) | ((with_reducible refine (moN _).mono ?_); rintro _ w1 ⟨rfl, hb⟩; replace H := H.call hb; clear hb))
  go_ret
  exact ⟨rfl, H.below⟩
end Go.Proofs.Ytkfpiojhfjmnaaa
