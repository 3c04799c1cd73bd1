/-
  THE WALK OF message's keep, letter by letter.
-/
import Derived.Test.YtajgikjmoeemnaaDoorMsgB
namespace Go.Proofs.YtajgikjmoeemnaaDoor
set_option maxRecDepth 100000
open Go.RowKit
set_option linter.unusedVariables false
set_option linter.unusedSimpArgs false
theorem reports_v {A : Option Addr} {c : Nat} {rs : List Rp} {n : Int} {w : World} {b : Bool} {m : Nat} (h : repsB rs n = b) (hn : m = rs.length) (hr : RRp w A rs) (hok : ∀ x ∈ rs, RpOk x) (hl : m ≤ c) (hm0 : c ≤ maxLen) :
    Calls Tryd.prog 61 #[.slice A m c, .int .i64 n] w (RetV w (.bool b)) := by
  subst h hn
  exact reports_any A c rs n w hr hok hl hm0
theorem MgN.sm {m : Mg} (h : MgN m) : Sm m.e := h.2.2.2.2.2.2.2.2.2.2.2.1
/-- a message behind a pointer, with a field more -/
def RetK (w0 : World) (g : Nat) (t : Mg) (L : List Item) (b : Bool) : Ending → World → Prop := RetH w0 (.blk g 34 (mgC t) :: L) (.bool b)
set_option maxHeartbeats 2000000 in
theorem keep_115 (t m : Mg) (rs : List Rp) (l : List UInt8) (n : Int) (g : Nat) (w0 w : World) (L : List Item) (hN : MgN m) (hR : MgR w0 m rs l) (H : Hp w0 w (.blk g 34 (mgC t) :: L)) :
    Calls Tryd.prog 36 #[.pointer (some ⟨g, 0, none⟩), .agg (mgC m).toArray, .int .i32 115, .int .i64 n] w (RetK w0 g (keepM 115 t m) L (keepB 115 m rs n)) := by
  cases d0 : numB m.sq 1
  all_goals
    go_enter Tryd.func36, Tryd.ntmps36; go_wp2_with (first | ((with_reducible refine Hp.box H ?_); (first | refine ⟨rfl, mgC m, rfl, ?_⟩); (clear H; intro g1 w1 H); go_frame) | ((with_reducible refine Hp.ld H ?_); refine ⟨rfl, ?_⟩; refine ⟨c_look rfl, ?_⟩; refine ⟨_, _, rfl, ?_⟩; (first | refine ⟨_, _, _, .z, ?_⟩ | refine ⟨_, _, _, .s .z, ?_⟩); refine ⟨_, rfl, ?_⟩; go_frame) | ((with_reducible refine Hp.sto H ?_); refine ⟨rfl, ?_⟩; refine ⟨c_look rfl, ?_⟩; refine ⟨_, _, rfl, ?_⟩; (first | refine ⟨_, _, _, .z, ?_⟩ | refine ⟨_, _, _, .s .z, ?_⟩); refine ⟨⟨_, rfl⟩, rfl, ?_⟩; (clear H; intro w1 H); (replace H : Hp _ w1 (.blk _ _ (mgC m) :: .blk _ _ (mgC (keepM 115 t m)) :: _) := H); go_frame) | ((with_reducible refine (number_v d0 _).mono ?_); rintro _ w1 ⟨rfl, hb⟩; replace H := H.call hb; clear hb)); go_ret; exact ⟨ret_bool (by unfold keepB; simp [*]), H.tail⟩
set_option maxHeartbeats 2000000 in
theorem keep_111 (t m : Mg) (rs : List Rp) (l : List UInt8) (n : Int) (g : Nat) (w0 w : World) (L : List Item) (hN : MgN m) (hR : MgR w0 m rs l) (H : Hp w0 w (.blk g 34 (mgC t) :: L)) :
    Calls Tryd.prog 36 #[.pointer (some ⟨g, 0, none⟩), .agg (mgC m).toArray, .int .i32 111, .int .i64 n] w (RetK w0 g (keepM 111 t m) L (keepB 111 m rs n)) := by
  go_enter Tryd.func36, Tryd.ntmps36
  go_wp2_with (first | ((with_reducible refine Hp.box H ?_); (first | refine ⟨rfl, mgC m, rfl, ?_⟩); (clear H; intro g1 w1 H); go_frame) | ((with_reducible refine Hp.ld H ?_); refine ⟨rfl, ?_⟩; refine ⟨c_look rfl, ?_⟩; refine ⟨_, _, rfl, ?_⟩; (first | refine ⟨_, _, _, .z, ?_⟩ | refine ⟨_, _, _, .s .z, ?_⟩); refine ⟨_, rfl, ?_⟩; go_frame) | ((with_reducible refine Hp.lds H ?_); refine ⟨rfl, by kernel_rfl, ?_⟩; refine ⟨_, s_look rfl, ?_⟩; refine ⟨_, _, rfl, ?_⟩; (first | refine ⟨_, _, _, .z, ?_⟩ | refine ⟨_, _, _, .s .z, ?_⟩); (first | refine ⟨opC m.ok m.o0 m.o1 m.o2, rfl, rfl, ?_⟩ | refine ⟨reC m.re m.rf m.rv, rfl, rfl, ?_⟩ | refine ⟨baC m.br m.bp, rfl, rfl, ?_⟩ | refine ⟨enC m.e, rfl, rfl, ?_⟩); go_frame) | ((with_reducible refine Hp.str H ?_); refine ⟨rfl, ?_⟩; refine ⟨_, s_look rfl, ?_⟩; refine ⟨_, _, rfl, opC m.ok m.o0 m.o1 m.o2, rfl, rfl, ?_⟩; (first | refine ⟨_, _, _, .z, ?_⟩ | refine ⟨_, _, _, .s .z, ?_⟩); refine ⟨rfl, mgC (keepM 111 t m), rfl, _, rfl, Nat.le_of_ble_eq_true rfl, ?_⟩; (clear H; intro w1 H; simp only [List.set_cons_succ, List.set_cons_zero] at H); go_frame))
  all_goals
    go_ret
    refine ⟨ret_bool ?_, H.tail⟩
    unfold keepB
    rw [if_neg (by decide), if_pos rfl, ← Bool.decide_and, ← Bool.decide_and, decide_eq_decide]
    first | omega | (split at h <;> omega)
set_option maxHeartbeats 2000000 in
theorem keep_114 (t m : Mg) (rs : List Rp) (l : List UInt8) (n : Int) (g : Nat) (w0 w : World) (L : List Item) (hN : MgN m) (hR : MgR w0 m rs l) (H : Hp w0 w (.blk g 34 (mgC t) :: L)) :
    Calls Tryd.prog 36 #[.pointer (some ⟨g, 0, none⟩), .agg (mgC m).toArray, .int .i32 114, .int .i64 n] w (RetK w0 g (keepM 114 t m) L (keepB 114 m rs n)) := by
  rcases ch3 (decide (0 ≤ m.re)) (decide (m.re ≤ 999)) (decide ((m.rv.size : Int) ≤ 16)) with d0 | ⟨d0, d1⟩ | ⟨d0, d1, d2⟩ | ⟨d0, d1, d2⟩
  all_goals
    go_enter Tryd.func36, Tryd.ntmps36; go_wp2_with (first | ((with_reducible refine Hp.box H ?_); (first | refine ⟨rfl, mgC m, rfl, ?_⟩); (clear H; intro g1 w1 H); go_frame) | ((with_reducible refine Hp.ld H ?_); refine ⟨rfl, ?_⟩; refine ⟨c_look rfl, ?_⟩; refine ⟨_, _, rfl, ?_⟩; (first | refine ⟨_, _, _, .z, ?_⟩ | refine ⟨_, _, _, .s .z, ?_⟩); refine ⟨_, rfl, ?_⟩; go_frame) | ((with_reducible refine Hp.lds H ?_); refine ⟨rfl, by kernel_rfl, ?_⟩; refine ⟨_, s_look rfl, ?_⟩; refine ⟨_, _, rfl, ?_⟩; (first | refine ⟨_, _, _, .z, ?_⟩ | refine ⟨_, _, _, .s .z, ?_⟩); (first | refine ⟨opC m.ok m.o0 m.o1 m.o2, rfl, rfl, ?_⟩ | refine ⟨reC m.re m.rf m.rv, rfl, rfl, ?_⟩ | refine ⟨baC m.br m.bp, rfl, rfl, ?_⟩ | refine ⟨enC m.e, rfl, rfl, ?_⟩); go_frame) | ((with_reducible refine Hp.str H ?_); refine ⟨rfl, ?_⟩; refine ⟨_, s_look rfl, ?_⟩; refine ⟨_, _, rfl, reC m.re m.rf m.rv, rfl, rfl, ?_⟩; (first | refine ⟨_, _, _, .z, ?_⟩ | refine ⟨_, _, _, .s .z, ?_⟩); refine ⟨rfl, mgC (keepM 114 t m), rfl, _, rfl, Nat.le_of_ble_eq_true rfl, ?_⟩; (clear H; intro w1 H; simp only [List.set_cons_succ, List.set_cons_zero] at H); go_frame)); go_ret; exact ⟨ret_bool (by unfold keepB; simp [*]), H.tail⟩
set_option maxHeartbeats 2000000 in
theorem keep_98 (t m : Mg) (rs : List Rp) (l : List UInt8) (n : Int) (g : Nat) (w0 w : World) (L : List Item) (hN : MgN m) (hR : MgR w0 m rs l) (H : Hp w0 w (.blk g 34 (mgC t) :: L)) :
    Calls Tryd.prog 36 #[.pointer (some ⟨g, 0, none⟩), .agg (mgC m).toArray, .int .i32 98, .int .i64 n] w (RetK w0 g (keepM 98 t m) L (keepB 98 m rs n)) := by
  cases d0 : balM m.br m.bp n
  all_goals
    go_enter Tryd.func36, Tryd.ntmps36; go_wp2_with (first | ((with_reducible refine Hp.box H ?_); (first | refine ⟨rfl, mgC m, rfl, ?_⟩); (clear H; intro g1 w1 H); go_frame) | ((with_reducible refine Hp.lds H ?_); refine ⟨rfl, by kernel_rfl, ?_⟩; refine ⟨_, s_look rfl, ?_⟩; refine ⟨_, _, rfl, ?_⟩; (first | refine ⟨_, _, _, .z, ?_⟩ | refine ⟨_, _, _, .s .z, ?_⟩); (first | refine ⟨opC m.ok m.o0 m.o1 m.o2, rfl, rfl, ?_⟩ | refine ⟨reC m.re m.rf m.rv, rfl, rfl, ?_⟩ | refine ⟨baC m.br m.bp, rfl, rfl, ?_⟩ | refine ⟨enC m.e, rfl, rfl, ?_⟩); go_frame) | ((with_reducible refine Hp.str H ?_); refine ⟨rfl, ?_⟩; refine ⟨_, s_look rfl, ?_⟩; refine ⟨_, _, rfl, baC m.br m.bp, rfl, rfl, ?_⟩; (first | refine ⟨_, _, _, .z, ?_⟩ | refine ⟨_, _, _, .s .z, ?_⟩); refine ⟨rfl, mgC (keepM 98 t m), rfl, _, rfl, Nat.le_of_ble_eq_true rfl, ?_⟩; (clear H; intro w1 H; simp only [List.set_cons_succ, List.set_cons_zero] at H); go_frame) | ((with_reducible refine (chosen_v d0 _).mono ?_); rintro _ w1 ⟨rfl, hb⟩; replace H := H.call hb; clear hb)); go_ret; exact ⟨ret_bool (by unfold keepB; simp [*]), H.tail⟩
set_option maxHeartbeats 2000000 in
theorem keep_105 (t m : Mg) (rs : List Rp) (l : List UInt8) (n : Int) (g : Nat) (w0 w : World) (L : List Item) (hN : MgN m) (hR : MgR w0 m rs l) (H : Hp w0 w (.blk g 34 (mgC t) :: L)) :
    Calls Tryd.prog 36 #[.pointer (some ⟨g, 0, none⟩), .agg (mgC m).toArray, .int .i32 105, .int .i64 n] w (RetK w0 g (keepM 105 t m) L (keepB 105 m rs n)) := by
  cases d0 : numB m.ix 1
  all_goals
    go_enter Tryd.func36, Tryd.ntmps36; go_wp2_with (first | ((with_reducible refine Hp.box H ?_); (first | refine ⟨rfl, mgC m, rfl, ?_⟩); (clear H; intro g1 w1 H); go_frame) | ((with_reducible refine Hp.ld H ?_); refine ⟨rfl, ?_⟩; refine ⟨c_look rfl, ?_⟩; refine ⟨_, _, rfl, ?_⟩; (first | refine ⟨_, _, _, .z, ?_⟩ | refine ⟨_, _, _, .s .z, ?_⟩); refine ⟨_, rfl, ?_⟩; go_frame) | ((with_reducible refine Hp.sto H ?_); refine ⟨rfl, ?_⟩; refine ⟨c_look rfl, ?_⟩; refine ⟨_, _, rfl, ?_⟩; (first | refine ⟨_, _, _, .z, ?_⟩ | refine ⟨_, _, _, .s .z, ?_⟩); refine ⟨⟨_, rfl⟩, rfl, ?_⟩; (clear H; intro w1 H); (replace H : Hp _ w1 (.blk _ _ (mgC m) :: .blk _ _ (mgC (keepM 105 t m)) :: _) := H); go_frame) | ((with_reducible refine (number_v d0 _).mono ?_); rintro _ w1 ⟨rfl, hb⟩; replace H := H.call hb; clear hb)); go_ret; exact ⟨ret_bool (by unfold keepB; simp [*]), H.tail⟩
set_option maxHeartbeats 2000000 in
theorem keep_122 (t m : Mg) (rs : List Rp) (l : List UInt8) (n : Int) (g : Nat) (w0 w : World) (L : List Item) (hN : MgN m) (hR : MgR w0 m rs l) (H : Hp w0 w (.blk g 34 (mgC t) :: L)) :
    Calls Tryd.prog 36 #[.pointer (some ⟨g, 0, none⟩), .agg (mgC m).toArray, .int .i32 122, .int .i64 n] w (RetK w0 g (keepM 122 t m) L (keepB 122 m rs n)) := by
  cases d0 : numB m.ix 0
  all_goals
    go_enter Tryd.func36, Tryd.ntmps36; go_wp2_with (first | ((with_reducible refine Hp.box H ?_); (first | refine ⟨rfl, mgC m, rfl, ?_⟩); (clear H; intro g1 w1 H); go_frame) | ((with_reducible refine Hp.ld H ?_); refine ⟨rfl, ?_⟩; refine ⟨c_look rfl, ?_⟩; refine ⟨_, _, rfl, ?_⟩; (first | refine ⟨_, _, _, .z, ?_⟩ | refine ⟨_, _, _, .s .z, ?_⟩); refine ⟨_, rfl, ?_⟩; go_frame) | ((with_reducible refine Hp.sto H ?_); refine ⟨rfl, ?_⟩; refine ⟨c_look rfl, ?_⟩; refine ⟨_, _, rfl, ?_⟩; (first | refine ⟨_, _, _, .z, ?_⟩ | refine ⟨_, _, _, .s .z, ?_⟩); refine ⟨⟨_, rfl⟩, rfl, ?_⟩; (clear H; intro w1 H); (replace H : Hp _ w1 (.blk _ _ (mgC m) :: .blk _ _ (mgC (keepM 122 t m)) :: _) := H); go_frame) | ((with_reducible refine (number_v d0 _).mono ?_); rintro _ w1 ⟨rfl, hb⟩; replace H := H.call hb; clear hb)); go_ret; exact ⟨ret_bool (by unfold keepB; simp [*]), H.tail⟩
set_option maxHeartbeats 2000000 in
theorem keep_99 (t m : Mg) (rs : List Rp) (l : List UInt8) (n : Int) (g : Nat) (w0 w : World) (L : List Item) (hN : MgN m) (hR : MgR w0 m rs l) (H : Hp w0 w (.blk g 34 (mgC t) :: L)) :
    Calls Tryd.prog 36 #[.pointer (some ⟨g, 0, none⟩), .agg (mgC m).toArray, .int .i32 99, .int .i64 n] w (RetK w0 g (keepM 99 t m) L (keepB 99 m rs n)) := by
  cases d0 : numB m.cm 0
  all_goals
    go_enter Tryd.func36, Tryd.ntmps36; go_wp2_with (first | ((with_reducible refine Hp.box H ?_); (first | refine ⟨rfl, mgC m, rfl, ?_⟩); (clear H; intro g1 w1 H); go_frame) | ((with_reducible refine Hp.ld H ?_); refine ⟨rfl, ?_⟩; refine ⟨c_look rfl, ?_⟩; refine ⟨_, _, rfl, ?_⟩; (first | refine ⟨_, _, _, .z, ?_⟩ | refine ⟨_, _, _, .s .z, ?_⟩); refine ⟨_, rfl, ?_⟩; go_frame) | ((with_reducible refine Hp.sto H ?_); refine ⟨rfl, ?_⟩; refine ⟨c_look rfl, ?_⟩; refine ⟨_, _, rfl, ?_⟩; (first | refine ⟨_, _, _, .z, ?_⟩ | refine ⟨_, _, _, .s .z, ?_⟩); refine ⟨⟨_, rfl⟩, rfl, ?_⟩; (clear H; intro w1 H); (replace H : Hp _ w1 (.blk _ _ (mgC m) :: .blk _ _ (mgC (keepM 99 t m)) :: _) := H); go_frame) | ((with_reducible refine (number_v d0 _).mono ?_); rintro _ w1 ⟨rfl, hb⟩; replace H := H.call hb; clear hb)); go_ret; exact ⟨ret_bool (by unfold keepB; simp [*]), H.tail⟩
set_option maxHeartbeats 2000000 in
theorem keep_110 (t m : Mg) (rs : List Rp) (l : List UInt8) (n : Int) (g : Nat) (w0 w : World) (L : List Item) (hN : MgN m) (hR : MgR w0 m rs l) (H : Hp w0 w (.blk g 34 (mgC t) :: L)) :
    Calls Tryd.prog 36 #[.pointer (some ⟨g, 0, none⟩), .agg (mgC m).toArray, .int .i32 110, .int .i64 n] w (RetK w0 g (keepM 110 t m) L (keepB 110 m rs n)) := by
  cases d0 : numB m.nc 0
  all_goals
    go_enter Tryd.func36, Tryd.ntmps36; go_wp2_with (first | ((with_reducible refine Hp.box H ?_); (first | refine ⟨rfl, mgC m, rfl, ?_⟩); (clear H; intro g1 w1 H); go_frame) | ((with_reducible refine Hp.ld H ?_); refine ⟨rfl, ?_⟩; refine ⟨c_look rfl, ?_⟩; refine ⟨_, _, rfl, ?_⟩; (first | refine ⟨_, _, _, .z, ?_⟩ | refine ⟨_, _, _, .s .z, ?_⟩); refine ⟨_, rfl, ?_⟩; go_frame) | ((with_reducible refine Hp.sto H ?_); refine ⟨rfl, ?_⟩; refine ⟨c_look rfl, ?_⟩; refine ⟨_, _, rfl, ?_⟩; (first | refine ⟨_, _, _, .z, ?_⟩ | refine ⟨_, _, _, .s .z, ?_⟩); refine ⟨⟨_, rfl⟩, rfl, ?_⟩; (clear H; intro w1 H); (replace H : Hp _ w1 (.blk _ _ (mgC m) :: .blk _ _ (mgC (keepM 110 t m)) :: _) := H); go_frame) | ((with_reducible refine (number_v d0 _).mono ?_); rintro _ w1 ⟨rfl, hb⟩; replace H := H.call hb; clear hb)); go_ret; exact ⟨ret_bool (by unfold keepB; simp [*]), H.tail⟩
set_option maxHeartbeats 2000000 in
theorem keep_101 (t m : Mg) (rs : List Rp) (l : List UInt8) (n : Int) (g : Nat) (w0 w : World) (L : List Item) (hN : MgN m) (hR : MgR w0 m rs l) (H : Hp w0 w (.blk g 34 (mgC t) :: L)) :
    Calls Tryd.prog 36 #[.pointer (some ⟨g, 0, none⟩), .agg (mgC m).toArray, .int .i32 101, .int .i64 n] w (RetK w0 g (keepM 101 t m) L (keepB 101 m rs n)) := by
  cases d0 : mayB m.e
  all_goals
    go_enter Tryd.func36, Tryd.ntmps36; go_wp2_with (first | ((with_reducible refine Hp.box H ?_); (first | refine ⟨rfl, mgC m, rfl, ?_⟩); (clear H; intro g1 w1 H); go_frame) | ((with_reducible refine Hp.lds H ?_); refine ⟨rfl, by kernel_rfl, ?_⟩; refine ⟨_, s_look rfl, ?_⟩; refine ⟨_, _, rfl, ?_⟩; (first | refine ⟨_, _, _, .z, ?_⟩ | refine ⟨_, _, _, .s .z, ?_⟩); (first | refine ⟨opC m.ok m.o0 m.o1 m.o2, rfl, rfl, ?_⟩ | refine ⟨reC m.re m.rf m.rv, rfl, rfl, ?_⟩ | refine ⟨baC m.br m.bp, rfl, rfl, ?_⟩ | refine ⟨enC m.e, rfl, rfl, ?_⟩); go_frame) | ((with_reducible refine Hp.str H ?_); refine ⟨rfl, ?_⟩; refine ⟨_, s_look rfl, ?_⟩; refine ⟨_, _, rfl, enC m.e, rfl, rfl, ?_⟩; (first | refine ⟨_, _, _, .z, ?_⟩ | refine ⟨_, _, _, .s .z, ?_⟩); refine ⟨rfl, mgC (keepM 101 t m), rfl, _, rfl, Nat.le_of_ble_eq_true rfl, ?_⟩; (clear H; intro w1 H; simp only [List.set_cons_succ, List.set_cons_zero] at H); go_frame) | ((with_reducible refine (emay_v d0 hN.sm _).mono ?_); rintro _ w1 ⟨rfl, hb⟩; replace H := H.call hb; clear hb)); go_ret; exact ⟨ret_bool (by unfold keepB; simp [*]), H.tail⟩
set_option maxHeartbeats 2000000 in
theorem keep_108 (t m : Mg) (rs : List Rp) (l : List UInt8) (n : Int) (g : Nat) (w0 w : World) (L : List Item) (hN : MgN m) (hR : MgR w0 m rs l) (H : Hp w0 w (.blk g 34 (mgC t) :: L)) :
    Calls Tryd.prog 36 #[.pointer (some ⟨g, 0, none⟩), .agg (mgC m).toArray, .int .i32 108, .int .i64 n] w (RetK w0 g (keepM 108 t m) L (keepB 108 m rs n)) := by
  cases d0 : repsB rs n
  all_goals
    go_enter Tryd.func36, Tryd.ntmps36; go_wp2_with (first | ((with_reducible refine Hp.box H ?_); (first | refine ⟨rfl, mgC m, rfl, ?_⟩); (clear H; intro g1 w1 H); go_frame) | ((with_reducible refine Hp.ld H ?_); refine ⟨rfl, ?_⟩; refine ⟨c_look rfl, ?_⟩; refine ⟨_, _, rfl, ?_⟩; (first | refine ⟨_, _, _, .z, ?_⟩ | refine ⟨_, _, _, .s .z, ?_⟩); refine ⟨_, rfl, ?_⟩; go_frame) | ((with_reducible refine Hp.sto H ?_); refine ⟨rfl, ?_⟩; refine ⟨c_look rfl, ?_⟩; refine ⟨_, _, rfl, ?_⟩; (first | refine ⟨_, _, _, .z, ?_⟩ | refine ⟨_, _, _, .s .z, ?_⟩); refine ⟨⟨_, rfl⟩, rfl, ?_⟩; (clear H; intro w1 H); (replace H : Hp _ w1 (.blk _ _ (mgC m) :: .blk _ _ (mgC (keepM 108 t m)) :: _) := H); go_frame) | ((with_reducible refine (reports_v d0 hR.n1 (hR.rr.below H.below) hR.ok hR.le hR.mx).mono ?_); rintro _ w1 ⟨rfl, hb⟩; replace H := H.call hb; clear hb)); go_ret; exact ⟨ret_bool (by unfold keepB; simp [*]), H.tail⟩
set_option maxHeartbeats 2000000 in
theorem keep_107 (t m : Mg) (rs : List Rp) (l : List UInt8) (n : Int) (g : Nat) (w0 w : World) (L : List Item) (hN : MgN m) (hR : MgR w0 m rs l) (H : Hp w0 w (.blk g 34 (mgC t) :: L)) :
    Calls Tryd.prog 36 #[.pointer (some ⟨g, 0, none⟩), .agg (mgC m).toArray, .int .i32 107, .int .i64 n] w (RetK w0 g (keepM 107 t m) L (keepB 107 m rs n)) := by
  rcases ch2 (decide (0 ≤ m.ck)) (decide (m.ck < 8)) with d0 | ⟨d0, d1⟩ | ⟨d0, d1⟩
  all_goals
    go_enter Tryd.func36, Tryd.ntmps36; go_wp2_with (first | ((with_reducible refine Hp.box H ?_); (first | refine ⟨rfl, mgC m, rfl, ?_⟩); (clear H; intro g1 w1 H); go_frame) | ((with_reducible refine Hp.ld H ?_); refine ⟨rfl, ?_⟩; refine ⟨c_look rfl, ?_⟩; refine ⟨_, _, rfl, ?_⟩; (first | refine ⟨_, _, _, .z, ?_⟩ | refine ⟨_, _, _, .s .z, ?_⟩); refine ⟨_, rfl, ?_⟩; go_frame) | ((with_reducible refine Hp.sto H ?_); refine ⟨rfl, ?_⟩; refine ⟨c_look rfl, ?_⟩; refine ⟨_, _, rfl, ?_⟩; (first | refine ⟨_, _, _, .z, ?_⟩ | refine ⟨_, _, _, .s .z, ?_⟩); refine ⟨⟨_, rfl⟩, rfl, ?_⟩; (clear H; intro w1 H); (replace H : Hp _ w1 (.blk _ _ (mgC m) :: .blk _ _ (mgC (keepM 107 t m)) :: _) := H); go_frame)); go_ret; exact ⟨ret_bool (by unfold keepB; simp [*]), H.tail⟩
set_option maxHeartbeats 2000000 in
theorem keep_109 (t m : Mg) (rs : List Rp) (l : List UInt8) (n : Int) (g : Nat) (w0 w : World) (L : List Item) (hN : MgN m) (hR : MgR w0 m rs l) (H : Hp w0 w (.blk g 34 (mgC t) :: L)) :
    Calls Tryd.prog 36 #[.pointer (some ⟨g, 0, none⟩), .agg (mgC m).toArray, .int .i32 109, .int .i64 n] w (RetK w0 g (keepM 109 t m) L (keepB 109 m rs n)) := by
  rcases ch2 (decide (m.ck < m.ct)) (decide (m.ct ≤ 8)) with d0 | ⟨d0, d1⟩ | ⟨d0, d1⟩
  all_goals
    go_enter Tryd.func36, Tryd.ntmps36; go_wp2_with (first | ((with_reducible refine Hp.box H ?_); (first | refine ⟨rfl, mgC m, rfl, ?_⟩); (clear H; intro g1 w1 H); go_frame) | ((with_reducible refine Hp.ld H ?_); refine ⟨rfl, ?_⟩; refine ⟨c_look rfl, ?_⟩; refine ⟨_, _, rfl, ?_⟩; (first | refine ⟨_, _, _, .z, ?_⟩ | refine ⟨_, _, _, .s .z, ?_⟩); refine ⟨_, rfl, ?_⟩; go_frame) | ((with_reducible refine Hp.sto H ?_); refine ⟨rfl, ?_⟩; refine ⟨c_look rfl, ?_⟩; refine ⟨_, _, rfl, ?_⟩; (first | refine ⟨_, _, _, .z, ?_⟩ | refine ⟨_, _, _, .s .z, ?_⟩); refine ⟨⟨_, rfl⟩, rfl, ?_⟩; (clear H; intro w1 H); (replace H : Hp _ w1 (.blk _ _ (mgC m) :: .blk _ _ (mgC (keepM 109 t m)) :: _) := H); go_frame)); go_ret; exact ⟨ret_bool (by unfold keepB; simp [*]), H.tail⟩
set_option maxHeartbeats 2000000 in
theorem keep_121 (t m : Mg) (rs : List Rp) (l : List UInt8) (n : Int) (g : Nat) (w0 w : World) (L : List Item) (hN : MgN m) (hR : MgR w0 m rs l) (H : Hp w0 w (.blk g 34 (mgC t) :: L)) :
    Calls Tryd.prog 36 #[.pointer (some ⟨g, 0, none⟩), .agg (mgC m).toArray, .int .i32 121, .int .i64 n] w (RetK w0 g (keepM 121 t m) L (keepB 121 m rs n)) := by
  rcases ch2 (decide (1 ≤ (m.yn : Int))) (decide ((m.yn : Int) ≤ 80)) with d0 | ⟨d0, d1⟩ | ⟨d0, d1⟩
  all_goals
    go_enter Tryd.func36, Tryd.ntmps36; go_wp2_with (first | ((with_reducible refine Hp.box H ?_); (first | refine ⟨rfl, mgC m, rfl, ?_⟩); (clear H; intro g1 w1 H); go_frame) | ((with_reducible refine Hp.ld H ?_); refine ⟨rfl, ?_⟩; refine ⟨c_look rfl, ?_⟩; refine ⟨_, _, rfl, ?_⟩; (first | refine ⟨_, _, _, .z, ?_⟩ | refine ⟨_, _, _, .s .z, ?_⟩); refine ⟨_, rfl, ?_⟩; go_frame) | ((with_reducible refine Hp.sto H ?_); refine ⟨rfl, ?_⟩; refine ⟨c_look rfl, ?_⟩; refine ⟨_, _, rfl, ?_⟩; (first | refine ⟨_, _, _, .z, ?_⟩ | refine ⟨_, _, _, .s .z, ?_⟩); refine ⟨⟨_, rfl⟩, rfl, ?_⟩; (clear H; intro w1 H); (replace H : Hp _ w1 (.blk _ _ (mgC m) :: .blk _ _ (mgC (keepM 121 t m)) :: _) := H); go_frame)); go_ret; exact ⟨ret_bool (by unfold keepB; simp [*]), H.tail⟩
theorem keep_any {c : Nat} (hc : c ∈ [115, 111, 114, 98, 105, 122, 99, 110, 101, 108, 107, 109, 121]) (t m : Mg) (rs : List Rp) (l : List UInt8) (n : Int) (g : Nat) (w0 w : World) (L : List Item) (hN : MgN m) (hR : MgR w0 m rs l) (H : Hp w0 w (.blk g 34 (mgC t) :: L)) :
    Calls Tryd.prog 36 #[.pointer (some ⟨g, 0, none⟩), .agg (mgC m).toArray, .int .i32 (c : Int), .int .i64 n] w (RetK w0 g (keepM c t m) L (keepB c m rs n)) := by
  simp only [List.mem_cons, List.not_mem_nil, or_false] at hc
  rcases hc with rfl | rfl | rfl | rfl | rfl | rfl | rfl | rfl | rfl | rfl | rfl | rfl | rfl
  · exact keep_115 t m rs l n g w0 w L hN hR H
  · exact keep_111 t m rs l n g w0 w L hN hR H
  · exact keep_114 t m rs l n g w0 w L hN hR H
  · exact keep_98 t m rs l n g w0 w L hN hR H
  · exact keep_105 t m rs l n g w0 w L hN hR H
  · exact keep_122 t m rs l n g w0 w L hN hR H
  · exact keep_99 t m rs l n g w0 w L hN hR H
  · exact keep_110 t m rs l n g w0 w L hN hR H
  · exact keep_101 t m rs l n g w0 w L hN hR H
  · exact keep_108 t m rs l n g w0 w L hN hR H
  · exact keep_107 t m rs l n g w0 w L hN hR H
  · exact keep_109 t m rs l n g w0 w L hN hR H
  · exact keep_121 t m rs l n g w0 w L hN hR H
end Go.Proofs.YtajgikjmoeemnaaDoor
