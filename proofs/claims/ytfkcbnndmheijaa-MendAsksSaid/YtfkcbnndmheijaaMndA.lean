/-
  mend: what a replica has; which chunk is asked for: the walks of Which, the program's and the reference's.
-/
import Derived.Test.YtfkcbnndmheijaaMsg
import Derived.Test.YtfkcbnndmheijaaHeapH
namespace Go.Proofs.Ytfkcbnndmheijaa
open Go.RowKit
set_option linter.unusedVariables false
set_option linter.unusedSimpArgs false
structure Hv where
  id : Int
  ap : Int
  sn : Int
  ct : Int
  r : Rp
  cA : Option Addr
  cn : Nat
  cc : Nat
  wh : Bool
def hvC (x : Hv) : List Value := [.int .i64 x.id, .int .i64 x.ap, .int .i64 x.sn, .int .i64 x.ct, .int .i64 x.r.ix, .int .u8 x.r.st, .int .i64 x.r.r, .int .i64 x.r.p, .int .u8 x.r.e.k, .int .i64 x.r.e.c, .int .i64 x.r.e.s, .int .u8 x.r.e.ok, .string x.r.e.s0, .string x.r.e.s1, .string x.r.e.s2, .slice x.cA x.cn x.cc, .bool x.wh]
def partB (k : Int) : Bool := (k == 12) || (k == 15)
def wholeB (k : Int) : Bool := (k == 10) || (k == 14)
def whichI (sn k ix ck : Int) : Int := if partB k && ((ix == sn) && decide (0 < sn)) then (if ck < -1 then -1 else ck) else if (wholeB k || partB k) && (decide (1 ≤ ix) && decide (ix ≤ sn)) then 0 else -1
set_option maxHeartbeats 4000000 in
theorem which_any (sn : Int) (m : Mg) (w : World) : Calls Try.prog 16 #[.int .i64 sn, .agg (mgC m).toArray] w (RetV w (.int .i64 (whichI sn m.k m.ix m.ck))) := by
  have H := Hp.nil w
  obtain ⟨K, hK⟩ : ∃ K, m.k = K := ⟨_, rfl⟩
  have hk : m.k = 12 ∨ m.k = 15 ∨ m.k = 10 ∨ m.k = 14 ∨ ((m.k == 12) = false ∧ (m.k == 15) = false ∧ (m.k == 10) = false ∧ (m.k == 14) = false) := by simp only [beq_eq_false_iff_ne]; omega
  clear hK
  rcases hk with hk | hk | hk | hk | ⟨k1, k2, k3, k4⟩
  all_goals
    go_enter Try.func16, Try.ntmps16; go_wp2_with (first | ((with_reducible refine Hp.box H ?_); (first | refine ⟨rfl, [.pointer _], rfl, ?_⟩ | refine ⟨rfl, [.int _ _], rfl, ?_⟩ | refine ⟨rfl, [.slice _ _ _], rfl, ?_⟩ | refine ⟨rfl, [.bool _], rfl, ?_⟩ | refine ⟨rfl, [.string _], rfl, ?_⟩ | refine ⟨rfl, _, rfl, ?_⟩); (clear H; intro g1 w1 H); go_frame) | ((with_reducible refine Hp.allo H ?_); refine ⟨rfl, ?_⟩; refine ⟨_, z_look rfl, ?_⟩; (clear H; intro g1 w1 H); go_frame) | ((with_reducible refine Hp.ld H ?_); refine ⟨rfl, ?_⟩; refine ⟨c_look rfl, ?_⟩; refine ⟨_, _, rfl, ?_⟩; ((repeat ((fail_if_success refine ⟨_, _, _, .z, ?_⟩); refine hs ?_)); refine ⟨_, _, _, .z, ?_⟩); refine ⟨_, rfl, ?_⟩; go_frame) | ((with_reducible refine Hp.lda H ?_); refine ⟨rfl, by kernel_rfl, ?_⟩; refine ⟨_, s_look rfl, ?_⟩; refine ⟨_, rfl, ?_⟩; ((repeat ((fail_if_success refine ⟨_, _, _, .z, ?_⟩); refine hs ?_)); refine ⟨_, _, _, .z, ?_⟩); refine ⟨rfl, ?_⟩; go_frame) | ((with_reducible refine Hp.lds H ?_); refine ⟨rfl, by kernel_rfl, ?_⟩; refine ⟨_, s_look rfl, ?_⟩; refine ⟨_, _, rfl, ?_⟩; ((repeat ((fail_if_success refine ⟨_, _, _, .z, ?_⟩); refine hs ?_)); refine ⟨_, _, _, .z, ?_⟩); (first | refine ⟨[_, _], rfl, rfl, ?_⟩ | refine ⟨[_, _, _, _], rfl, rfl, ?_⟩ | refine ⟨[_, _, _, _, _, _, _], rfl, rfl, ?_⟩ | refine ⟨[_, _, _], rfl, rfl, ?_⟩ | (fail)); go_frame) | ((with_reducible refine Hp.sto H ?_); refine ⟨rfl, ?_⟩; refine ⟨c_look rfl, ?_⟩; refine ⟨_, _, rfl, ?_⟩; ((repeat ((fail_if_success refine ⟨_, _, _, .z, ?_⟩); refine hs ?_)); refine ⟨_, _, _, .z, ?_⟩); refine ⟨⟨_, rfl⟩, rfl, ?_⟩; (clear H; intro w1 H; simp only [List.set] at H); go_frame) | ((with_reducible refine Hp.sta H ?_); refine ⟨rfl, ?_⟩; refine ⟨_, s_look rfl, ?_⟩; refine ⟨_, rfl, _, rfl, rfl, ?_⟩; ((repeat ((fail_if_success refine ⟨_, _, _, .z, ?_⟩); refine hs ?_)); refine ⟨_, _, _, .z, ?_⟩); refine ⟨rfl, rfl, ?_⟩; (clear H; intro w1 H; simp only [List.set] at H); go_frame) | ((with_reducible refine Hp.str H ?_); refine ⟨rfl, ?_⟩; refine ⟨_, s_look rfl, ?_⟩; refine ⟨_, _, rfl, _, rfl, rfl, ?_⟩; ((repeat ((fail_if_success refine ⟨_, _, _, .z, ?_⟩); refine hs ?_)); refine ⟨_, _, _, .z, ?_⟩); refine ⟨rfl, _, rfl, _, rfl, Nat.le_of_ble_eq_true rfl, ?_⟩; (clear H; intro w1 H; simp only [List.set] at H); go_frame) | ((with_reducible refine Hp.bdl H ?_); (fail); go_frame) | (fail))
    all_goals (go_ret; refine ⟨ret_int ?_, H.below⟩; simp [whichI, partB, wholeB, *] <;> (first | (intros; omega) | (split <;> (first | omega | (split <;> omega)))))
set_option maxHeartbeats 4000000 in
theorem rwhich_any (sn : Int) (m : Mg) (w : World) : Calls Try.prog 17 #[.int .i64 sn, .agg (mgC m).toArray] w (RetV w (.int .i64 (whichI sn m.k m.ix m.ck))) := by
  have H := Hp.nil w
  have hk : m.k = 12 ∨ m.k = 15 ∨ m.k = 10 ∨ m.k = 14 ∨ ((m.k == 12) = false ∧ (m.k == 15) = false ∧ (m.k == 10) = false ∧ (m.k == 14) = false) := by simp only [beq_eq_false_iff_ne]; omega
  rcases hk with hk | hk | hk | hk | ⟨k1, k2, k3, k4⟩
  all_goals
    go_enter Try.func17, Try.ntmps17; go_wp2_with (first | ((with_reducible refine Hp.box H ?_); (first | refine ⟨rfl, [.pointer _], rfl, ?_⟩ | refine ⟨rfl, [.int _ _], rfl, ?_⟩ | refine ⟨rfl, [.slice _ _ _], rfl, ?_⟩ | refine ⟨rfl, [.bool _], rfl, ?_⟩ | refine ⟨rfl, [.string _], rfl, ?_⟩ | refine ⟨rfl, _, rfl, ?_⟩); (clear H; intro g1 w1 H); go_frame) | ((with_reducible refine Hp.allo H ?_); refine ⟨rfl, ?_⟩; refine ⟨_, z_look rfl, ?_⟩; (clear H; intro g1 w1 H); go_frame) | ((with_reducible refine Hp.ld H ?_); refine ⟨rfl, ?_⟩; refine ⟨c_look rfl, ?_⟩; refine ⟨_, _, rfl, ?_⟩; ((repeat ((fail_if_success refine ⟨_, _, _, .z, ?_⟩); refine hs ?_)); refine ⟨_, _, _, .z, ?_⟩); refine ⟨_, rfl, ?_⟩; go_frame) | ((with_reducible refine Hp.lda H ?_); refine ⟨rfl, by kernel_rfl, ?_⟩; refine ⟨_, s_look rfl, ?_⟩; refine ⟨_, rfl, ?_⟩; ((repeat ((fail_if_success refine ⟨_, _, _, .z, ?_⟩); refine hs ?_)); refine ⟨_, _, _, .z, ?_⟩); refine ⟨rfl, ?_⟩; go_frame) | ((with_reducible refine Hp.lds H ?_); refine ⟨rfl, by kernel_rfl, ?_⟩; refine ⟨_, s_look rfl, ?_⟩; refine ⟨_, _, rfl, ?_⟩; ((repeat ((fail_if_success refine ⟨_, _, _, .z, ?_⟩); refine hs ?_)); refine ⟨_, _, _, .z, ?_⟩); (first | refine ⟨[_, _], rfl, rfl, ?_⟩ | refine ⟨[_, _, _, _], rfl, rfl, ?_⟩ | refine ⟨[_, _, _, _, _, _, _], rfl, rfl, ?_⟩ | refine ⟨[_, _, _], rfl, rfl, ?_⟩ | (fail)); go_frame) | ((with_reducible refine Hp.sto H ?_); refine ⟨rfl, ?_⟩; refine ⟨c_look rfl, ?_⟩; refine ⟨_, _, rfl, ?_⟩; ((repeat ((fail_if_success refine ⟨_, _, _, .z, ?_⟩); refine hs ?_)); refine ⟨_, _, _, .z, ?_⟩); refine ⟨⟨_, rfl⟩, rfl, ?_⟩; (clear H; intro w1 H; simp only [List.set] at H); go_frame) | ((with_reducible refine Hp.sta H ?_); refine ⟨rfl, ?_⟩; refine ⟨_, s_look rfl, ?_⟩; refine ⟨_, rfl, _, rfl, rfl, ?_⟩; ((repeat ((fail_if_success refine ⟨_, _, _, .z, ?_⟩); refine hs ?_)); refine ⟨_, _, _, .z, ?_⟩); refine ⟨rfl, rfl, ?_⟩; (clear H; intro w1 H; simp only [List.set] at H); go_frame) | ((with_reducible refine Hp.str H ?_); refine ⟨rfl, ?_⟩; refine ⟨_, s_look rfl, ?_⟩; refine ⟨_, _, rfl, _, rfl, rfl, ?_⟩; ((repeat ((fail_if_success refine ⟨_, _, _, .z, ?_⟩); refine hs ?_)); refine ⟨_, _, _, .z, ?_⟩); refine ⟨rfl, _, rfl, _, rfl, Nat.le_of_ble_eq_true rfl, ?_⟩; (clear H; intro w1 H; simp only [List.set] at H); go_frame) | ((with_reducible refine Hp.bdl H ?_); (fail); go_frame) | (fail))
    all_goals (go_ret; refine ⟨ret_int ?_, H.below⟩; simp [whichI, partB, wholeB, *] <;> (first | (intros; omega) | (split <;> (first | omega | (split <;> omega)))))
end Go.Proofs.Ytfkcbnndmheijaa
